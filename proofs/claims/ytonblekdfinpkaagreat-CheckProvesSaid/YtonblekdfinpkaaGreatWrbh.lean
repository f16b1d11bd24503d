/- Who writes each key. -/
import Derived.Test.YtonblekdfinpkaaGreatWras
import Derived.Test.YtonblekdfinpkaaGreatWrat
import Derived.Test.YtonblekdfinpkaaGreatWray
import Derived.Test.YtonblekdfinpkaaGreatWrbf
import Derived.Test.YtonblekdfinpkaaGreatWrbg
namespace Go.Proofs.YtonblekdfinpkaaGreat
set_option linter.unusedVariables false
set_option linter.unusedSimpArgs false
section
open Go.RowKit
structure MapSl (w:World) (base b:Nat) (m:List (Int×Value)) (f:Int→List Int):Prop where
 is:MapIs w b (fun n:Int=>Value.int .i64 n) m
 row:∀key,∃A c,(ZP m key).getD (.slice none 0 0)= .slice A (f key).length c∧w.ownsRow base 3 1 (.slice A (f key).length c) (f key).length ((f key).map (Value.int .i64))
 apart:∀k1 k2,k1≠k2→∀i,Own ((ZP m k1).getD (.slice none 0 0)) i→¬Own ((ZP m k2).getD (.slice none 0 0)) i
theorem MapSl.upd {S:Nat→Prop} {w w':World} {base b:Nat} {m:List (Int×Value)} {f:Int→List Int} (h:MapSl w base b m f) (k:Upd S w w') (hb:¬S b) (hS:∀i,base≤i→i<w.heap.size→¬S i):MapSl w' base b m f:=by
 refine⟨h.is.upd k hb,fun key=> ?_,h.apart⟩;obtain⟨A,c,h1,h2⟩:=h.row key;exact⟨A,c,h1,Za h2 k fun i hi=>by have:=h2.lt i hi;exact hS i this.1 this.2⟩
theorem MapSl.new {w:World} {base b:Nat} (h:MapIs w b (fun n:Int=>Value.int .i64 n) []):MapSl w base b [] fun _=>[]:=
 ⟨h,fun _=>⟨none,0,rfl,World.ownsRow_nil _ _ _ _⟩,fun _ _ _ i hi=>by simp[Zdu,Own,Value.ownBlock]at hi⟩
theorem MapSl.congr {w:World} {base b:Nat} {m:List (Int×Value)} {f g:Int→List Int} (h:MapSl w base b m f) (hfg:∀key,f key=g key):MapSl w base b m g:=by
 have:f=g:=funext hfg;rw[←this];exact h
theorem MapSl.put {w w1 w2:World} {base b:Nat} {m:List (Int×Value)} {f:Int→List Int} {key x:Int} {A A':Option Addr} {c c':Nat} (h:MapSl w base b m f)
  (hA:(ZP m key).getD (.slice none 0 0)= .slice A (f key).length c) (hb:b<base)
  (hown:w1.ownsRow base 3 1 (.slice A' ((f key).length+1) c') ((f key).length+1) ((f key++[x]).map (Value.int .i64)))
  (hu1:Upd (Own (.slice A (f key).length c)) w w1) (hg:∀i,Own (.slice A' ((f key).length+1) c') i→Own (.slice A (f key).length c) i∨w.heap.size≤i)
  (hm2:MapIs w2 b (fun n:Int=>Value.int .i64 n) (ZB m key (.slice A' ((f key).length+1) c'))) (hu2:Upd (One b) w1 w2):
  MapSl w2 base b (ZB m key (.slice A' ((f key).length+1) c')) (fun k=>if k=key then f key++[x] else f k):=by
 have hB:∀i,base≤i→¬One b i:=fun i hi e=>by cases e;omega
 refine⟨hm2,fun k=> ?_,fun k1 k2 hne i hi hi2=> ?_⟩
 ·by_cases hk:k=key
  ·subst hk;simp only[if_true];refine⟨A',c',by rw[Zad];simp,?_⟩;have:=Za hown hu2 fun i hi=>hB i (hown.lt i hi).1
   simpa using this
  ·simp only[if_neg hk];obtain⟨B,d,h1,h2⟩:=h.row k;refine⟨B,d,by rw[ZaD _ _ hk];exact h1,Za (Za h2 hu1 fun i hi e=> ?_) hu2 fun i hi=>hB i (h2.lt i hi).1⟩;exact h.apart k key hk i (by rw[h1];exact hi) (by rw[hA];exact e)
 ·by_cases e1:k1=key
  ·subst e1;have hne2:k2≠k1:=fun e=>hne e.symm
   rw[Zad]at hi;rw[ZaD _ _ hne2]at hi2;rcases hg i hi with hi|hi
   ·exact h.apart k1 k2 hne i (by rw[hA];exact hi) hi2
   ·obtain⟨B,d,h1,h2⟩:=h.row k2;rw[h1]at hi2;have:=(h2.lt i hi2).2;omega
  ·rw[ZaD _ _ e1]at hi
   by_cases e2:k2=key
   ·subst e2;rw[Zad]at hi2;rcases hg i hi2 with hi2|hi2
    ·exact h.apart k1 k2 hne i hi (by rw[hA];exact hi2)
    ·obtain⟨B,d,h1,h2⟩:=h.row k1;rw[h1]at hi;have:=(h2.lt i hi).2;omega
   ·rw[ZaD _ _ e2]at hi2;exact h.apart k1 k2 hne i hi hi2
theorem Zmm (s a b:List Int):ZeE s (a++b)=ZeE (ZeE s a) b:=by
 induction a generalizing s with
 |nil=>rfl
 |cons x a ih=>exact ih _
theorem ZpX (m:List (Int×Value)) (key:Int) (v:Value) (s ks:List Int) (h:m.map (·.1)=ZeE s ks):(ZB m key v).map (·.1)=ZeE s (ks++[key]):=by
 rw[Zo2,Zmm,h];rfl
theorem ZkC (a b:List HTx) (s:List Int):Zal (a++b) s=Zal b (Zal a s):=by
 induction a generalizing s with
 |nil=>rfl
 |cons x a ih=>exact ih _
theorem ZhR {txs:List HTx} {k:Nat} {x:HTx} (hk:k<txs.length) (hx:txs[k]=x):Zal (txs.take (k+1)) []=if x.done then ZeE (Zal (txs.take k) []) (ZcO x.ops) else Zal (txs.take k) []:=by
 subst hx;rw[List.take_succ_eq_append_getElem hk,ZkC];rfl
theorem Zf3 {txs:List HTx} {k:Nat} {x:HTx} (hk:k<txs.length) (hx:txs[k]=x) (key:Int):Zy (txs.take (k+1)) key=Zy (txs.take k) key++if x.done=true∧key∈ZcO x.ops then [x.id] else []:=by
 subst hx;unfold Zy;rw[List.take_succ_eq_append_getElem hk,List.filter_append,List.map_append]
 congr 1
 by_cases h:txs[k].done=true∧key∈ZcO txs[k].ops
 ·rw[if_pos h,List.filter_cons_of_pos (by rw[h.1];simpa using h.2)];rfl
 ·rw[if_neg h,List.filter_cons_of_neg (by
   intro e;simp only[Bool.and_eq_true,List.contains_iff_mem]at e;exact h e)]
  rfl
def wrF (txs:List HTx) (k:Nat) (id:Int) (ks:List Int) (key:Int):List Int:=Zy (txs.take k) key++if key∈ks then [id] else []
theorem Zr1 (txs:List HTx) (k:Nat) (id key:Int) (ks:List Int) (hn:key∉ks) (u:Int):(if u=key then wrF txs k id ks key++[id] else wrF txs k id ks u)=wrF txs k id (ks++[key]) u:=by
 unfold wrF
 by_cases h:u=key
 ·subst h;rw[if_pos rfl,if_neg hn,if_pos (by simp),List.append_nil]
 ·rw[if_neg h]
  congr 1
  simp[h]
theorem Zr2 (txs:List HTx) (k:Nat) (id u:Int):Zy (txs.take k) u=wrF txs k id [] u:=by unfold wrF;simp
theorem ZhM (txs:List HTx) (key:Int):(Zy txs key).length≤txs.length:=by
 unfold Zy;rw[List.length_map];exact List.length_filter_le _ _
theorem Zs8 (txs:List HTx) (k:Nat) (id:Int) (ks:List Int) (key:Int):(wrF txs k id ks key).length≤k+1:=by
 unfold wrF;rw[List.length_append];have h1:=ZhM (txs.take k) key;have h2:=List.length_take_le k txs
 split<;>simp<;>omega
theorem Zod (w:World):(zeroValue 24).run Tryz.prog w= .ok (.slice none 0 0) w:=by kernel_rfl
def ZvD (w:World) (txs:List HTx) (e:Ending) (w':World):Prop:=∃b m,e= .returned (.map (some b))∧w.heap.size≤b∧b<w.heap.size+2∧m.map (·.1)=Zal txs []∧MapSl w' (w.heap.size+2) b m (Zy txs)∧Upd No w w'
def Apart (m:List (Int×Value)) (g:Nat) (v:Value):Prop:=∀key i,Own ((ZP m key).getD (.slice none 0 0)) i→i≠g∧¬Own v i
theorem Apart.put {m:List (Int×Value)} {g z:Nat} {v old new:Value} {key:Int} (h:Apart m g v) (ho:(ZP m key).getD (.slice none 0 0)=old) (hn:∀i,Own new i→Own old i∨z≤i) (hg:g<z) (hv:∀i,Own v i→i<z):Apart (ZB m key new) g v:=fun k i hi=>by
 by_cases e:k=key
 ·subst e;rw[Zad]at hi;rcases hn i hi with h1|h1
  ·exact h k i (by rw[ho];exact h1)
  ·exact⟨by omega,fun h2=>by have:=hv i h2;omega⟩
 ·rw[ZaD _ _ e]at hi;exact h k i hi
theorem MapSl.block_lt {w:World} {base b:Nat} {m:List (Int×Value)} {f:Int→List Int} (h:MapSl w base b m f) (key:Int) (i:Nat) (hi:Own ((ZP m key).getD (.slice none 0 0)) i):base≤i∧i<w.heap.size:=by
 obtain⟨A,c,h1,h2⟩:=h.row key;rw[h1]at hi;exact h2.lt i hi
set_option maxRecDepth 100000 in
set_option maxHeartbeats 4000000 in
theorem ZqW (F:Nat→Prop) (w:World) (h:Hist) (H:h.lies F w) (hs:h.txs.length≤4096):Calls Tryz.prog 92 #[h.val] w (ZvD w h.txs):=by
 obtain⟨txs,ords,A,c,B,d⟩:=h;simp only at hs;unfold Hist.val;have uH:=(Upd.refl No w).alloc (.cells #[.slice A txs.length c,.slice B ords.length d] 50);have hmm:= @run_makeMap Tryz.prog;have hn0:=MapIs.new (α:=Int) (w.alloc (.cells #[.slice A txs.length c,.slice B ords.length d] 50)) (fun n:Int=>Value.int .i64 n);simp only[World.size_alloc]at hn0;have HN:=Qh (MapSl.new (base:=w.heap.size+2) hn0);clear hn0
 go_enter Tryz.func92,Tryz.ntmps92
 go_wp2
 go_loopg [12] txs.length (fun gk i wr=>∃(k:Nat) (m:List (Int×Value)),k+gk=txs.length∧i= .int .i64 k∧Hid (MapSl wr (w.heap.size+2) (w.heap.size+1) m (Zy (txs.take k)))∧Hid (m.map (·.1)=Zal (txs.take k) [])∧
  Upd No (w.alloc (.cells #[.slice A txs.length c,.slice B ords.length d] 50)) wr)
 case atStart=>exact⟨0,[],by omega,rfl,Qh HN.out,Qh rfl,(Upd.refl No _).alloc _⟩
 case round=>
  obtain⟨k,m,hgk,rfl,hm,hk,hu⟩:=hrel;clear hmm
  by_cases hlt:k<txs.length
  ·have H1:=H.upd (uH.trans hu) (fun _ _=>id);obtain⟨ad,hAd,q0,q1,q2⟩:=H1.tx_at hlt;simp only at hAd q0 q1 q2;have hx1:=H1.tx txs[k] (List.getElem_mem hlt);obtain⟨x,hx⟩:∃x,txs[k]=x:=⟨_,rfl⟩;rw[hx]at q0 q1 q2 hx1;subst hAd;have X:=Qh hx;have XL:=Qh hx1;have b1:(0:Int)≤(k:Int):=Qn _;have b2:(k:Int)<(txs.length:Int):=by omega
   have uA:=(Upd.refl No wr).alloc (.cells #[.int .i64 x.id,.bool x.done,.slice x.A x.ops.length x.c] 85);have bo:=Qh (Blk.new wr 85 [.int .i64 x.id,.bool x.done,.slice x.A x.ops.length x.c]);have hm1:=Qh (hm.out.upd uA id (fun _ _ _=>id));clear hx hx1 H1
   cases hd:x.done
   ·rw[hd]at q1 uA bo;have HS:=Qh (show Zal (txs.take (k+1)) []=Zal (txs.take k) [] by rw[ZhR hlt X.out,hd];rfl);have HW:=Qh (show∀key,Zy (txs.take k) key=Zy (txs.take (k+1)) key from fun key=>by rw[Zf3 hlt X.out,hd];simp);have hm2:=Qh ((hm.out.upd uA id (fun _ _ _=>id)).congr HW.out);clear hd;go_wp2
    go_roundg (gk-1)
    case measure=>omega
    case rel=>exact⟨k+1,m,by omega,by go_num,hm2,Qh (by rw[HS.out];exact hk.out),hu.trans uA⟩
   ·rw[hd]at q1 uA bo;have HS:=Qh (show Zal (txs.take (k+1)) []=ZeE (Zal (txs.take k) []) (ZcO x.ops) by rw[ZhR hlt X.out,hd];rfl);have HW:=Qh (show∀key,Zy (txs.take (k+1)) key=wrF txs k x.id (ZcO x.ops) key from fun key=>by rw[Zf3 hlt X.out,hd];unfold wrF;simp);have hm2:=Qh ((hm.out.upd uA id (fun _ _ _=>id)).congr (Zr2 txs k x.id));clear hd;have hkk:=ZuC F _ x.id true x.A x.c x.ops (HOps.upd XL.out.1 uA (fun _ _=>id)) XL.out.2.2.1;obtain⟨ks,hks⟩:∃ks,ZcO x.ops=ks:=⟨_,rfl⟩;rw[hks]at hkk;have HK:=Qh hkk;have HKS:=Qh hks;have hnd:=Qh (show ks.Pairwise (·<·) by rw[←hks];exact Zco _);have hkl:ks.length≤x.ops.length:=by rw[←hks];exact Nat.le_trans (Zfq _) (Zpf _ _)
    have hxl:=XL.out.2.2.1;unfold Zq at hxl;clear hkk hks
    go_wp2_with fail
    refine(HK.out).mono ?_;rintro e w1 ⟨A1,c1,rfl,ho1,hu1⟩;have hm3:=Qh (hm2.out.upd hu1 id (fun _ _ _=>id));have bo1:=Qh (bo.out.upd hu1 id);have Ho1:=Qh ho1;have hz1:=uA.size;have hz2:=hu1.size;have hz3:=hu.size;have hz4:=hm.out.is.lt;simp only[World.size_alloc]at hz1 hz2 hz3;have HUA:=Qh ((hu.trans uA).trans hu1)
    have hap:Apart m wr.heap.size (.slice A1 ks.length c1):=fun key i hi=>by
     have h1:=hm.out.block_lt key i hi;refine⟨by omega,fun h2=> ?_⟩;have h3:=(ho1.lt i h2).1;simp only[World.size_alloc]at h3;omega
    have Hap:=Qh hap;clear hap ho1 hu1 uA;have hoB:=Zah (b2:=wr.heap.size+1) Ho1.out (by simp);clear Ho1;go_wp2
    generalize wr.heap.size=z5 at*
    generalize gk=GK at*
    go_loopg [22] ks.length (fun gj i wj=>∃(j:Nat) (mj:List (Int×Value)),j+gj=ks.length∧i= .int .i64 j∧Hid (MapSl wj (w.heap.size+2) (w.heap.size+1) mj (wrF txs k x.id (ks.take j)))∧
     Hid (mj.map (·.1)=ZeE (Zal (txs.take k) []) (ks.take j))∧Hid (Apart mj z5 (.slice A1 ks.length c1))∧Hid (Blk wj z5 85 [.int .i64 x.id,.bool true,.slice x.A x.ops.length x.c])∧
     wj.ownsRow (z5+1) 3 1 (.slice A1 ks.length c1) ks.length (ks.map (Value.int .i64))∧Upd No (w.alloc (.cells #[.slice (some ad) txs.length c,.slice B ords.length d] 50)) wj)
    case atStart=>exact⟨0,m,by omega,rfl,hm3,Qh hk.out,Hap,bo1,hoB,HUA.out⟩
    case round=>
     obtain⟨j,mj,hgj,rfl,hmj,hkj,hapj,boj,hoj,huj⟩:=hrel
     by_cases hltj:j<ks.length
     ·have hI:Ints (fun i=>z5+1≤i) _ A1 ks:=Ints.of_own hoj;obtain⟨ad1,hA1,_,_,c0⟩:=hI.at_ hltj;obtain⟨key,hkey⟩:∃key,ks[j]=key:=⟨_,rfl⟩;rw[hkey]at c0;subst hA1;have KE:=Qh hkey;clear hkey hI;have b3:(j:Int)<(ks.length:Int):=by omega
      have b4:(0:Int)≤(j:Int):=Qn _;obtain⟨Ak,ck,hrow,howk⟩:=hmj.out.row key;obtain⟨fk,hfk⟩:∃fk,wrF txs k x.id (ks.take j) key=fk:=⟨_,rfl⟩;have hfl:fk.length≤k+1:=by rw[←hfk];exact Zs8 txs k x.id _ key
      rw[hfk]at hrow howk;have e1:=ZG Zdj Tryz.underlying125 Zod hmj.out.is key;rw[hrow]at e1;have ob0:=boj.out.cell 0;simp only[Qz]at ob0;have Hrow:=Qh hrow;have Hfk:=Qh hfk
      have HP:=Qh (show∀u,(if u=key then wrF txs k x.id (ks.take j) key++[x.id] else wrF txs k x.id (ks.take j) u)=wrF txs k x.id (ks.take (j+1)) u from fun u=>by
       rw[List.take_succ_eq_append_getElem hltj,KE.out];refine Zr1 txs k x.id key (ks.take j) (fun hm=> ?_) u;rw[List.mem_take_iff_getElem]at hm;obtain⟨q,hq,e⟩:=hm;have:=List.pairwise_iff_getElem.1 hnd.out q j (by omega) (by omega) (by omega);rw[e,KE.out]at this;exact Int.lt_irrefl _ this)
      have HKJ:=Qh (show∀v,(ZB mj key v).map (·.1)=ZeE (Zal (txs.take k) []) (ks.take (j+1)) from fun v=>by
       rw[List.take_succ_eq_append_getElem hltj,KE.out];exact ZpX mj key v _ _ hkj.out)
      clear hrow hfk;have hzj:=huj.size;simp only[World.size_alloc]at hzj;have hob:=boj.out.lt;have hmi:=Qh hmj.out.is;have hbl:=hmi.out.lt
      go_wp2_with (first
       |(at_builtin;refine Zb1 rfl rfl ZbA (v:= .slice Ak fk.length ck) (cells:=[.int .i64 x.id]) (by rfl) rfl howk rfl rfl (by omega) (by omega) (by omega) ?_;intro g' c' w4 hown4 hu4 hg4 hlt4)
       |(at_mapUpdate;refine Zlm rfl rfl Zdj Tryz.underlying125 (a:=key) (val:= .slice (some ⟨g',0,none⟩) (fk.length+1) c') (by rfl) (by rfl) (by rfl) (hmi.out.upd hu4 (fun e=>by have:=(howk.lt _ e).1;omega)) ?_;intro w5 hm5 hu5))
      go_roundg (gk-1)
      case measure=>omega
      case rel=>
       have hbase:∀i,Own (.slice Ak fk.length ck) i→w.heap.size+2≤i∧i<_:=fun i hi=>howk.lt i hi
       have hgn:∀i,Own (.slice (some ⟨g',0,none⟩) (fk.length+1) c') i→Own (.slice Ak fk.length ck) i∨_≤i:=fun i hi=>by
        have e:g'=i:=by simpa[Own,Value.ownBlock]using hi
        rw[←e];exact hg4
       have hput:=hmj.out.put (key:=key) (x:=x.id) (A:=Ak) (c:=ck) (by rw[Hrow.out,Hfk.out]) (by omega) (by rw[Hfk.out];simpa using hown4) (by rw[Hfk.out];exact hu4) (by rw[Hfk.out];exact hgn) (by rw[Hfk.out];exact hm5) hu5;refine⟨j+1,_,by omega,by go_num,Qh (hput.congr (g:=wrF txs k x.id (ks.take (j+1))) HP.out),Qh ?_,Qh ?_,Qh ?_,?_,?_⟩
       ·rw[Hfk.out];exact HKJ.out _
       ·rw[Hfk.out];exact hapj.out.put Hrow.out hgn hob (fun i hi=>(hoj.lt i hi).2)
       ·exact(boj.out.upd hu4 (fun e=>(hapj.out key z5 (by rw[Hrow.out];exact e)).1 rfl)).upd hu5 (fun e=>by cases e;omega)
       ·exact Za (Za hoj hu4 (fun i hi e=>(hapj.out key i (by rw[Hrow.out];exact e)).2 hi)) hu5 (fun i hi e=>by have:=(hoj.lt i hi).1;cases e;omega)
       ·exact(huj.then_ hu4 fun i e=> .inr (by have:=(hbase i e).1;simp only[World.size_alloc];omega)).then_ hu5 fun i e=> .inr (by cases e;simp)
     ·obtain rfl:j=ks.length:=by omega
      have hmf:=Qh ((show MapSl _ (w.heap.size+2) (w.heap.size+1) mj (wrF txs k x.id ks) by have:=hmj.out;rwa [List.take_length]at this).congr (g:=Zy (txs.take (k+1))) (fun key=>by rw[HW.out,HKS.out]));have hkf:=Qh (show mj.map (·.1)=Zal (txs.take (k+1)) [] by rw[HS.out,HKS.out];have:=hkj.out;rwa [List.take_length]at this);clear hoj;go_wp2
      go_roundg (GK-1)
      case measure=>omega
      case rel=>exact⟨k+1,mj,by omega,by go_num,hmf,hkf,huj⟩
  ·obtain rfl:k=txs.length:=by omega
   have hmf:=Qh (show MapSl _ (w.heap.size+2) (w.heap.size+1) m (Zy txs) by have:=hm.out;rwa [List.take_length]at this);have hkf:=Qh (show m.map (·.1)=Zal txs [] by have:=hk.out;rwa [List.take_length]at this);go_wp2
   go_ret
   exact⟨w.heap.size+1,m,rfl,by omega,by omega,hkf.out,hmf.out,uH.trans hu⟩
end
/- Whether a history is right. -/
section
open Go.RowKit
theorem ZgE {p:Nat→Bool} {n k:Nat} (hk:k<n) (h:p k=false):(List.range n).all p=false:=by
 rw[List.all_eq_false];exact⟨k,List.mem_range.2 hk,by simp[h]⟩
theorem Zcz {p:Nat→Bool} {k:Nat} (h:(List.range k).all p=true) (hk:p k=true):(List.range (k+1)).all p=true:=by
 rw[List.range_succ,List.all_append,h];simp[hk]
section
variable {h:Hist} {k:Nat}
theorem Zem (hk:k<h.txs.length) (ht:ZeT h.txs k=false):Zb h=false:=by
 unfold Zb;rw[ZgE hk ht];simp
theorem ZdJ (hk:k<h.ords.length) (ht:ZdE h.txs h.ords k=false):Zb h=false:=by
 unfold Zb;rw[ZgE hk ht];simp
theorem ZoG (hl:((Zal h.txs []).length==h.ords.length)=false):Zb h=false:=by
 unfold Zb;rw[hl];simp
theorem Zh5 (hl:4096<h.txs.length):Zb h=false:=by
 unfold Zb;rw[decide_eq_false (by omega)];simp
theorem ZoE (h1:h.txs.length≤4096) (h2:(List.range h.txs.length).all (ZeT h.txs)=true) (h3:((Zal h.txs []).length==h.ords.length)=true) (h4:(List.range h.ords.length).all (ZdE h.txs h.ords)=true):Zb h=true:=by
 unfold Zb;rw[decide_eq_true h1,h2,h3,h4];rfl
end
section
variable {txs:List HTx} {k:Nat} {x:HTx}
def ZeD (txs:List HTx) (k:Nat) (id:Int):Bool:=match k with|0=>true|j+1=>(match txs[j]? with|some u=>decide (u.id<id)|none=>true)
theorem Zr9 (hk:k<txs.length) (hx:txs[k]=x):ZeT txs k=(ZeD txs k x.id&&ZaQ x.id x.ops==0&&Zb4 txs x.id x.ops):=by
 unfold ZeT ZeD;rw[Qg hk,hx]
 cases k<;>rfl
theorem Zru {y:HTx} (hk:0<k) (hk2:k<txs.length) (hy:txs[k-1]'(by omega)=y) (id:Int) (h:id≤y.id):ZeD txs k id=false:=by
 obtain⟨j,rfl⟩:∃j,k=j+1:=⟨k-1,by omega⟩;simp only[Nat.add_sub_cancel]at hy
 show(match txs[j]? with|some u=>decide (u.id<id)|none=>true)=_
 rw[Qg (by omega),hy];simp only[decide_eq_false_iff_not];omega
theorem ZpU {y:HTx} (hk:0<k) (hk2:k<txs.length) (hy:txs[k-1]'(by omega)=y) (id:Int) (h:y.id<id):ZeD txs k id=true:=by
 obtain⟨j,rfl⟩:∃j,k=j+1:=⟨k-1,by omega⟩;simp only[Nat.add_sub_cancel]at hy
 show(match txs[j]? with|some u=>decide (u.id<id)|none=>true)=_
 rw[Qg (by omega),hy];simp only[decide_eq_true_eq];omega
end
section
variable {txs:List HTx} {ords:List HOrd} {k:Nat} {x:HOrd}
def ZeC (ords:List HOrd) (k:Nat) (key:Int):Bool:=match k with|0=>true|j+1=>(match ords[j]? with|some u=>decide (u.key<key)|none=>true)
theorem ZqF (hk:k<ords.length) (hx:ords[k]=x):ZdE txs ords k=(ZeC ords k x.key&& !x.txs.isEmpty&&(Zbt x.txs==Zbt (Zy txs x.key))):=by
 unfold ZdE ZeC;rw[Qg hk,hx]
 cases k<;>rfl
theorem ZpV {y:HOrd} (hk:0<k) (hk2:k<ords.length) (hy:ords[k-1]'(by omega)=y) (key:Int) (h:key≤y.key):ZeC ords k key=false:=by
 obtain⟨j,rfl⟩:∃j,k=j+1:=⟨k-1,by omega⟩;simp only[Nat.add_sub_cancel]at hy
 show(match ords[j]? with|some u=>decide (u.key<key)|none=>true)=_
 rw[Qg (by omega),hy];simp only[decide_eq_false_iff_not];omega
theorem Zn7 {y:HOrd} (hk:0<k) (hk2:k<ords.length) (hy:ords[k-1]'(by omega)=y) (key:Int) (h:y.key<key):ZeC ords k key=true:=by
 obtain⟨j,rfl⟩:∃j,k=j+1:=⟨k-1,by omega⟩;simp only[Nat.add_sub_cancel]at hy
 show(match ords[j]? with|some u=>decide (u.key<key)|none=>true)=_
 rw[Qg (by omega),hy];simp only[decide_eq_true_eq];omega
end
theorem Zqy (a b:List Int):Zh7 a b=(Zbt a==Zbt b):=by unfold Zh7;rw[Zhb,Zhb]
section
variable {F:Nat→Prop} {w:World} {i0:Int} {dn:Bool} {A:Option Addr} {c:Nat} {l:List HOp}
theorem Zd9 {v:Int} (h:HOps F w A l) (hl:Zq l.length) (hv:ZaQ i0 l=v):Calls Tryz.prog 90 #[.agg #[.int .i64 i0,.bool dn,.slice A l.length c]] w fun e w'=>e= .returned (.int .i64 v)∧Upd No w w':=by subst hv;exact Ztb F w i0 dn A c l h hl
theorem ZfJ {v:Bool} {txs:List HTx} {ords:List HOrd} {A' B:Option Addr} {c' d:Nat} (H:Hist.lies F w ⟨txs,ords,A',c',B,d⟩) (h:HOps F w A l) (hl:Zq l.length) (hv:Zb4 txs i0 l=v):
  Calls Tryz.prog 91 #[.agg #[.slice A' txs.length c',.slice B ords.length d],.agg #[.int .i64 i0,.bool dn,.slice A l.length c]] w fun e w'=>e= .returned (.bool v)∧Upd No w w':=by subst hv;exact ZsE F w ⟨txs,ords,A',c',B,d⟩ i0 dn A c l H h hl
end
theorem Zia {F G:Nat→Prop} {w:World} {A B:Option Addr} {c d:Nat} {a b:List Int} {v:Bool} (ha:Ints F w A a) (hb:Ints G w B b) (hl:a.length≤17592186044415) (hl2:b.length≤17592186044415) (hv:Zh7 a b=v):
  Calls Tryz.prog 73 #[.slice A a.length c,.slice B b.length d] w fun e w'=>e= .returned (.bool v)∧Upd No w w':=by subst hv;exact Zuu F G w A B c d a b ha hb hl hl2
set_option maxRecDepth 100000 in
set_option maxHeartbeats 8000000 in
theorem Zpm (F:Nat→Prop) (w:World) (h:Hist) (H:h.lies F w):Calls Tryz.prog 41 #[h.val] w fun e w'=>e= .returned (.bool (Zb h))∧Upd No w w':=by
 obtain⟨txs,ords,A,c,B,d⟩:=h;have hft:=H.few;have hfo:=H.fewo;simp only at hft hfo;unfold Hist.val;have uH:=(Upd.refl No w).alloc (.cells #[.slice A txs.length c,.slice B ords.length d] 50)
 by_cases hmany:4096<txs.length
 ·have hv:=Qh (Zh5 (h:=⟨txs,ords,A,c,B,d⟩) hmany)
  go_enter Tryz.func41,Tryz.ntmps41
  go_wp2
  go_ret
  exact⟨by rw[hv.out];rfl,uH⟩
 ·have hmb:decide ((4096:Int)<(txs.length:Int))=false:=decide_eq_false (by omega);have bH0:=Qh (Blk.new w 50 [.slice A txs.length c,.slice B ords.length d])
  go_enter Tryz.func41,Tryz.ntmps41
  go_wp2
  go_loopg [15] txs.length (fun gk i wr=>∃(k:Nat),k+gk=txs.length∧i= .int .i64 k∧Hid ((List.range k).all (ZeT txs)=true)∧Upd No (w.alloc (.cells #[.slice A txs.length c,.slice B ords.length d] 50)) wr)
  case atStart=>exact⟨0,by omega,rfl,Qh rfl,Upd.refl No _⟩
  case round=>
   obtain⟨k,hgk,rfl,hall,hu⟩:=hrel
   by_cases hlt:k<txs.length
   ·have H1:=H.upd (uH.trans hu) (fun _ _=>id);obtain⟨ad,hAd,q0,q1,q2⟩:=H1.tx_at hlt;simp only at hAd q0 q1 q2;have hx0:=H.tx txs[k] (List.getElem_mem hlt);have hx1:=H1.tx txs[k] (List.getElem_mem hlt);obtain⟨x,hx⟩:∃x,txs[k]=x:=⟨_,rfl⟩;rw[hx]at q0 q1 q2 hx1 hx0;subst hAd;have X:=Qh hx;have XL:=Qh hx1;have XL0:=Qh hx0;have b1:(0:Int)≤(k:Int):=Qn _;have b2:(k:Int)<(txs.length:Int):=by omega
    have uA:=(Upd.refl No wr).alloc (.cells #[.int .i64 x.id,.bool x.done,.slice x.A x.ops.length x.c] 85);have bo:=Qh (Blk.new wr 85 [.int .i64 x.id,.bool x.done,.slice x.A x.ops.length x.c]);have bH:=Qh ((bH0.out.upd hu id).upd uA id);have UA:=Qh (hu.trans uA);clear hx hx1 hx0;obtain⟨E,hE0⟩:∃E,ZaQ x.id x.ops=E:=⟨_,rfl⟩;obtain⟨N,hN0⟩:∃N,Zb4 txs x.id x.ops=N:=⟨_,rfl⟩;have hE:=Qh hE0;have hN:=Qh hN0;have hok:=Qh (show ZeT txs k=(ZeD txs k x.id&&E==0&&N) by rw[Zr9 hlt X.out,hE0,hN0]);clear hE0 hN0
    by_cases hk0:k=0
    ·have hah:=Qh (show ZeD txs k x.id=true by rw[hk0];rfl);have hkk:decide ((0:Int)<(k:Int))=false:=decide_eq_false (by omega);have hkn:decide (0<k)=false:=decide_eq_false (by omega);clear hk0 H1
     by_cases hE1:E=0
     ·subst hE1
      cases N
      ·have hf:=Qh (show Zb ⟨txs,ords,some ad,c,B,d⟩=false from Zem (k:=k) hlt (by rw[hok.out];simp));have g0:=bH.out.cell 0;have g1:=bH.out.cell 1;have k0:=bo.out.cell 0;have k1:=bo.out.cell 1;have k2:=bo.out.cell 2;simp only[Qz,Qs]at g0 g1 k0 k1 k2;go_wp2;refine wp_region_noPanic ?_;refine wp_region_held_drew (S:=(fun w'=>Upd No (w.alloc (.cells #[.slice (some ad) txs.length c,.slice B ords.length d] 50)) w'∧w'.cell? ⟨w.heap.size,0,none⟩=some (.slice (some ad) txs.length c)∧w'.cell? ⟨w.heap.size,1,none⟩=some (.slice B ords.length d)∧w'.cell? ⟨wr.heap.size,0,none⟩=some (.int .i64 x.id)∧w'.cell? ⟨wr.heap.size,1,none⟩=some (.bool x.done)∧w'.cell? ⟨wr.heap.size,2,none⟩=some (.slice x.A x.ops.length x.c))) (by kernel_rfl) ?_ (fun hHeld=> ?_)
       ·(first|exact⟨UA.out.drew,g0,g1,k0,k1,k2⟩|exact⟨hHeld.1.trans hu3,hu3.keepNo hHeld.2.1,hu3.keepNo hHeld.2.2.1,hu3.keepNo hHeld.2.2.2.1,hu3.keepNo hHeld.2.2.2.2.1,hu3.keepNo hHeld.2.2.2.2.2⟩)
       refine wpK 0 rfl ?_;refine wpK 1 rfl ?_;refine wpK 2 rfl ?_;refine wpN 3 rfl ?_;refine wpN 4 rfl ?_;refine wpN 5 rfl ?_;refine wpN 6 rfl ?_;refine wpN 7 rfl ?_;refine wpN 8 rfl ?_;refine wpN 9 rfl ?_;refine wpN 10 rfl ?_;refine wpN 11 rfl ?_;refine wpN 12 rfl ?_;refine wpK 13 rfl ?_;refine wpK 14 rfl ?_;refine wpK 15 rfl ?_;refine wpR [16] ?_;refine wpC rfl (fun K hK=> ?_) AllReadyH.nil;go_simp
       (first
  |(go_at_call 90;refine(Zd9 (F:=F) (v:=0) (HOps.upd XL0.out.1 (uH.trans hHeld.1) (fun _ _=>id)) XL.out.2.2.1 hE.out).mono ?_;rintro e w3 ⟨rfl,hu3⟩))
       try (go_wp2_with fail)
       refine hK.out _ _ ?_ (fun hHeld=> ?_)
       ·(first|exact⟨UA.out.drew,g0,g1,k0,k1,k2⟩|exact⟨hHeld.1.trans hu3,hu3.keepNo hHeld.2.1,hu3.keepNo hHeld.2.2.1,hu3.keepNo hHeld.2.2.2.1,hu3.keepNo hHeld.2.2.2.2.1,hu3.keepNo hHeld.2.2.2.2.2⟩)
       clear hK K
       try simp only[Act.put,sT,sS,sZ]
       refine wpK 17 rfl ?_;refine wpK 18 rfl ?_;refine wpK 19 rfl ?_;refine wpK 20 rfl ?_;refine wpK 21 rfl ?_;refine wpR [22] ?_;refine wpC rfl (fun K hK=> ?_) AllReadyH.nil;go_simp
       (first
  |(go_at_call 91;refine(ZfJ (F:=F) (v:=false) (H.upd (uH.trans hHeld.1) (fun _ _=>id)) (HOps.upd XL0.out.1 (uH.trans hHeld.1) (fun _ _=>id)) XL.out.2.2.1 hN.out).mono ?_;rintro e w3 ⟨rfl,hu3⟩))
       try (go_wp2_with fail)
       refine hK.out _ _ ?_ (fun hHeld=> ?_)
       ·(first|exact⟨UA.out.drew,g0,g1,k0,k1,k2⟩|exact⟨hHeld.1.trans hu3,hu3.keepNo hHeld.2.1,hu3.keepNo hHeld.2.2.1,hu3.keepNo hHeld.2.2.2.1,hu3.keepNo hHeld.2.2.2.2.1,hu3.keepNo hHeld.2.2.2.2.2⟩)
       clear hK K
       try simp only[Act.put,sT,sS,sZ]
       refine wpK 23 rfl ?_;refine wpK 24 rfl ?_;refine wpD (NoPanic.normal ?_);have HU:=Qh hHeld.1;clear hHeld;go_wp2
       go_ret
       exact⟨by rw[hf.out];rfl,uH.trans HU.out⟩
      ·have HA:=Qh (Zcz hall.out (by rw[hok.out,hah.out];rfl));have g0:=bH.out.cell 0;have g1:=bH.out.cell 1;have k0:=bo.out.cell 0;have k1:=bo.out.cell 1;have k2:=bo.out.cell 2;simp only[Qz,Qs]at g0 g1 k0 k1 k2;go_wp2;refine wp_region_noPanic ?_;refine wp_region_held_drew (S:=(fun w'=>Upd No (w.alloc (.cells #[.slice (some ad) txs.length c,.slice B ords.length d] 50)) w'∧w'.cell? ⟨w.heap.size,0,none⟩=some (.slice (some ad) txs.length c)∧w'.cell? ⟨w.heap.size,1,none⟩=some (.slice B ords.length d)∧w'.cell? ⟨wr.heap.size,0,none⟩=some (.int .i64 x.id)∧w'.cell? ⟨wr.heap.size,1,none⟩=some (.bool x.done)∧w'.cell? ⟨wr.heap.size,2,none⟩=some (.slice x.A x.ops.length x.c))) (by kernel_rfl) ?_ (fun hHeld=> ?_)
       ·(first|exact⟨UA.out.drew,g0,g1,k0,k1,k2⟩|exact⟨hHeld.1.trans hu3,hu3.keepNo hHeld.2.1,hu3.keepNo hHeld.2.2.1,hu3.keepNo hHeld.2.2.2.1,hu3.keepNo hHeld.2.2.2.2.1,hu3.keepNo hHeld.2.2.2.2.2⟩)
       refine wpK 0 rfl ?_;refine wpK 1 rfl ?_;refine wpK 2 rfl ?_;refine wpN 3 rfl ?_;refine wpN 4 rfl ?_;refine wpN 5 rfl ?_;refine wpN 6 rfl ?_;refine wpN 7 rfl ?_;refine wpN 8 rfl ?_;refine wpN 9 rfl ?_;refine wpN 10 rfl ?_;refine wpN 11 rfl ?_;refine wpN 12 rfl ?_;refine wpK 13 rfl ?_;refine wpK 14 rfl ?_;refine wpK 15 rfl ?_;refine wpR [16] ?_;refine wpC rfl (fun K hK=> ?_) AllReadyH.nil;go_simp
       (first
  |(go_at_call 90;refine(Zd9 (F:=F) (v:=0) (HOps.upd XL0.out.1 (uH.trans hHeld.1) (fun _ _=>id)) XL.out.2.2.1 hE.out).mono ?_;rintro e w3 ⟨rfl,hu3⟩))
       try (go_wp2_with fail)
       refine hK.out _ _ ?_ (fun hHeld=> ?_)
       ·(first|exact⟨UA.out.drew,g0,g1,k0,k1,k2⟩|exact⟨hHeld.1.trans hu3,hu3.keepNo hHeld.2.1,hu3.keepNo hHeld.2.2.1,hu3.keepNo hHeld.2.2.2.1,hu3.keepNo hHeld.2.2.2.2.1,hu3.keepNo hHeld.2.2.2.2.2⟩)
       clear hK K
       try simp only[Act.put,sT,sS,sZ]
       refine wpK 17 rfl ?_;refine wpK 18 rfl ?_;refine wpK 19 rfl ?_;refine wpK 20 rfl ?_;refine wpK 21 rfl ?_;refine wpR [22] ?_;refine wpC rfl (fun K hK=> ?_) AllReadyH.nil;go_simp
       (first
  |(go_at_call 91;refine(ZfJ (F:=F) (v:=true) (H.upd (uH.trans hHeld.1) (fun _ _=>id)) (HOps.upd XL0.out.1 (uH.trans hHeld.1) (fun _ _=>id)) XL.out.2.2.1 hN.out).mono ?_;rintro e w3 ⟨rfl,hu3⟩))
       try (go_wp2_with fail)
       refine hK.out _ _ ?_ (fun hHeld=> ?_)
       ·(first|exact⟨UA.out.drew,g0,g1,k0,k1,k2⟩|exact⟨hHeld.1.trans hu3,hu3.keepNo hHeld.2.1,hu3.keepNo hHeld.2.2.1,hu3.keepNo hHeld.2.2.2.1,hu3.keepNo hHeld.2.2.2.2.1,hu3.keepNo hHeld.2.2.2.2.2⟩)
       clear hK K
       try simp only[Act.put,sT,sS,sZ]
       refine wpK 23 rfl ?_;refine wpK 24 rfl ?_;refine wpD (NoPanic.normal ?_);have HU:=Qh hHeld.1;clear hHeld;go_wp2
       go_roundg (gk-1)
       case measure=>omega
       case rel=>exact⟨k+1,by omega,by go_num,Qh HA.out,HU.out⟩
     ·have hEb:(E != 0)=true:=by simpa using hE1
      have hf:=Qh (show Zb ⟨txs,ords,some ad,c,B,d⟩=false from Zem (k:=k) hlt (by rw[hok.out,beq_eq_false_iff_ne.2 hE1];simp));clear hE1;have g0:=bH.out.cell 0;have g1:=bH.out.cell 1;have k0:=bo.out.cell 0;have k1:=bo.out.cell 1;have k2:=bo.out.cell 2;simp only[Qz,Qs]at g0 g1 k0 k1 k2;go_wp2;refine wp_region_noPanic ?_;refine wp_region_held_drew (S:=(fun w'=>Upd No (w.alloc (.cells #[.slice (some ad) txs.length c,.slice B ords.length d] 50)) w'∧w'.cell? ⟨w.heap.size,0,none⟩=some (.slice (some ad) txs.length c)∧w'.cell? ⟨w.heap.size,1,none⟩=some (.slice B ords.length d)∧w'.cell? ⟨wr.heap.size,0,none⟩=some (.int .i64 x.id)∧w'.cell? ⟨wr.heap.size,1,none⟩=some (.bool x.done)∧w'.cell? ⟨wr.heap.size,2,none⟩=some (.slice x.A x.ops.length x.c))) (by kernel_rfl) ?_ (fun hHeld=> ?_)
      ·(first|exact⟨UA.out.drew,g0,g1,k0,k1,k2⟩|exact⟨hHeld.1.trans hu3,hu3.keepNo hHeld.2.1,hu3.keepNo hHeld.2.2.1,hu3.keepNo hHeld.2.2.2.1,hu3.keepNo hHeld.2.2.2.2.1,hu3.keepNo hHeld.2.2.2.2.2⟩)
      refine wpK 0 rfl ?_;refine wpK 1 rfl ?_;refine wpK 2 rfl ?_;refine wpN 3 rfl ?_;refine wpN 4 rfl ?_;refine wpN 5 rfl ?_;refine wpN 6 rfl ?_;refine wpN 7 rfl ?_;refine wpN 8 rfl ?_;refine wpN 9 rfl ?_;refine wpN 10 rfl ?_;refine wpN 11 rfl ?_;refine wpN 12 rfl ?_;refine wpK 13 rfl ?_;refine wpK 14 rfl ?_;refine wpK 15 rfl ?_;refine wpR [16] ?_;refine wpC rfl (fun K hK=> ?_) AllReadyH.nil;go_simp
      (first
  |(go_at_call 90;refine(Zd9 (F:=F) (v:=E) (HOps.upd XL0.out.1 (uH.trans hHeld.1) (fun _ _=>id)) XL.out.2.2.1 hE.out).mono ?_;rintro e w3 ⟨rfl,hu3⟩))
      try (go_wp2_with fail)
      refine hK.out _ _ ?_ (fun hHeld=> ?_)
      ·(first|exact⟨UA.out.drew,g0,g1,k0,k1,k2⟩|exact⟨hHeld.1.trans hu3,hu3.keepNo hHeld.2.1,hu3.keepNo hHeld.2.2.1,hu3.keepNo hHeld.2.2.2.1,hu3.keepNo hHeld.2.2.2.2.1,hu3.keepNo hHeld.2.2.2.2.2⟩)
      clear hK K
      try simp only[Act.put,sT,sS,sZ]
      refine wpK 17 rfl ?_;refine wpK 18 rfl ?_;refine wpK 19 rfl ?_;refine wpN 20 rfl ?_;refine wpN 21 rfl ?_;refine wpR [22] ?_;refine wpC rfl (fun K hK=> ?_) AllReadyH.nil;go_simp;refine hK.out _ _ ?_ (fun hHeld=> ?_)
      ·exact hHeld
      clear hK K
      try simp only[Act.put,sT,sS,sZ]
      refine wpN 23 rfl ?_;refine wpK 24 rfl ?_;refine wpD (NoPanic.normal ?_);have HU:=Qh hHeld.1;clear hHeld;go_wp2
      go_ret
      exact⟨by rw[hf.out];rfl,uH.trans HU.out⟩
    ·obtain⟨ad2,hAd2,p0,_,_⟩:=H1.tx_at (k:=k-1) (show k-1<txs.length by omega);simp only at hAd2 p0
     cases hAd2
     obtain⟨y',hy'⟩:∃y',txs[k-1]'(by omega)=y':=⟨_,rfl⟩;rw[hy']at p0
     replace p0:=uA.keepNo p0
     have hkp:0<k:=by omega
     by_cases hordL:x.id≤y'.id
     ·have hf:=Qh (show Zb ⟨txs,ords,some ad,c,B,d⟩=false from Zem (k:=k) hlt (by rw[hok.out,Zru hkp hlt hy' x.id hordL];simp));obtain⟨y,hy⟩:∃y,y'.id=y:=⟨_,rfl⟩;rw[hy]at p0 hordL;clear hy hy' H1;have hge:decide (x.id≤y)=true:=decide_eq_true hordL;have hkk:decide ((0:Int)<(k:Int))=true:=decide_eq_true (by omega);have hkn:decide (0<k)=true:=decide_eq_true (by omega);have hw1:IntKind.i64.wrap ((k:Int)-1)=(k:Int)-1:=IntWalk.i64_in _ (by omega);have hw2:(0:Int)≤(k:Int)-1:=by omega
      have hw3:(1:Int)≤(k:Int):=by omega
      have hw4:(k:Int)-1<(txs.length:Int):=by omega
      have hw5:((k:Int)-1).toNat=k-1:=by omega
      have g0:=bH.out.cell 0;have g1:=bH.out.cell 1;have k0:=bo.out.cell 0;have k1:=bo.out.cell 1;have k2:=bo.out.cell 2;simp only[Qz,Qs]at g0 g1 k0 k1 k2;go_wp2;refine wp_region_noPanic ?_;refine wp_region_held_drew (S:=(fun w'=>Upd No (w.alloc (.cells #[.slice (some ad) txs.length c,.slice B ords.length d] 50)) w'∧w'.cell? ⟨w.heap.size,0,none⟩=some (.slice (some ad) txs.length c)∧w'.cell? ⟨w.heap.size,1,none⟩=some (.slice B ords.length d)∧w'.cell? ⟨wr.heap.size,0,none⟩=some (.int .i64 x.id)∧w'.cell? ⟨wr.heap.size,1,none⟩=some (.bool x.done)∧w'.cell? ⟨wr.heap.size,2,none⟩=some (.slice x.A x.ops.length x.c)∧w'.cell? (ad.add ((k-1)*3))=some (.int .i64 y))) (by kernel_rfl) ?_ (fun hHeld=> ?_)
      ·(first|exact⟨UA.out.drew,g0,g1,k0,k1,k2,p0⟩|exact⟨hHeld.1.trans hu3,hu3.keepNo hHeld.2.1,hu3.keepNo hHeld.2.2.1,hu3.keepNo hHeld.2.2.2.1,hu3.keepNo hHeld.2.2.2.2.1,hu3.keepNo hHeld.2.2.2.2.2.1,hu3.keepNo hHeld.2.2.2.2.2.2⟩)
      refine wpK 0 rfl ?_;refine wpK 1 rfl ?_;refine wpK 2 rfl ?_;refine wpK 3 rfl ?_;refine wpK 4 rfl ?_;refine wpK 5 rfl ?_;refine wpK 6 rfl ?_;refine wpK 7 rfl ?_;refine wpK 8 rfl ?_;refine wpK 9 rfl ?_;refine wpK 10 rfl ?_;refine wpK 11 rfl ?_;refine wpK 12 rfl ?_;refine wpK 13 rfl ?_;refine wpK 14 rfl ?_;refine wpN 15 rfl ?_;refine wpR [16] ?_;refine wpC rfl (fun K hK=> ?_) AllReadyH.nil;go_simp;refine hK.out _ _ ?_ (fun hHeld=> ?_)
      ·exact hHeld
      clear hK K
      try simp only[Act.put,sT,sS,sZ]
      refine wpN 17 rfl ?_;refine wpK 18 rfl ?_;refine wpK 19 rfl ?_;refine wpN 20 rfl ?_;refine wpN 21 rfl ?_;refine wpR [22] ?_;refine wpC rfl (fun K hK=> ?_) AllReadyH.nil;go_simp;refine hK.out _ _ ?_ (fun hHeld=> ?_)
      ·exact hHeld
      clear hK K
      try simp only[Act.put,sT,sS,sZ]
      refine wpN 23 rfl ?_;refine wpK 24 rfl ?_;refine wpD (NoPanic.normal ?_);have HU:=Qh hHeld.1;clear hHeld;go_wp2
      go_ret
      exact⟨by rw[hf.out];rfl,uH.trans HU.out⟩
     ·have hah:=Qh (show ZeD txs k x.id=true from ZpU hkp hlt hy' x.id (by omega));obtain⟨y,hy⟩:∃y,y'.id=y:=⟨_,rfl⟩;rw[hy]at p0 hordL;clear hy hy' H1;have hge:decide (x.id≤y)=false:=decide_eq_false hordL;have hkk:decide ((0:Int)<(k:Int))=true:=decide_eq_true (by omega);have hkn:decide (0<k)=true:=decide_eq_true (by omega);have hw1:IntKind.i64.wrap ((k:Int)-1)=(k:Int)-1:=IntWalk.i64_in _ (by omega);have hw2:(0:Int)≤(k:Int)-1:=by omega
      have hw3:(1:Int)≤(k:Int):=by omega
      have hw4:(k:Int)-1<(txs.length:Int):=by omega
      have hw5:((k:Int)-1).toNat=k-1:=by omega
      by_cases hE1:E=0
      ·subst hE1
       cases N
       ·have hf:=Qh (show Zb ⟨txs,ords,some ad,c,B,d⟩=false from Zem (k:=k) hlt (by rw[hok.out];simp));have g0:=bH.out.cell 0;have g1:=bH.out.cell 1;have k0:=bo.out.cell 0;have k1:=bo.out.cell 1;have k2:=bo.out.cell 2;simp only[Qz,Qs]at g0 g1 k0 k1 k2;go_wp2;refine wp_region_noPanic ?_;refine wp_region_held_drew (S:=(fun w'=>Upd No (w.alloc (.cells #[.slice (some ad) txs.length c,.slice B ords.length d] 50)) w'∧w'.cell? ⟨w.heap.size,0,none⟩=some (.slice (some ad) txs.length c)∧w'.cell? ⟨w.heap.size,1,none⟩=some (.slice B ords.length d)∧w'.cell? ⟨wr.heap.size,0,none⟩=some (.int .i64 x.id)∧w'.cell? ⟨wr.heap.size,1,none⟩=some (.bool x.done)∧w'.cell? ⟨wr.heap.size,2,none⟩=some (.slice x.A x.ops.length x.c)∧w'.cell? (ad.add ((k-1)*3))=some (.int .i64 y))) (by kernel_rfl) ?_ (fun hHeld=> ?_)
        ·(first|exact⟨UA.out.drew,g0,g1,k0,k1,k2,p0⟩|exact⟨hHeld.1.trans hu3,hu3.keepNo hHeld.2.1,hu3.keepNo hHeld.2.2.1,hu3.keepNo hHeld.2.2.2.1,hu3.keepNo hHeld.2.2.2.2.1,hu3.keepNo hHeld.2.2.2.2.2.1,hu3.keepNo hHeld.2.2.2.2.2.2⟩)
        refine wpK 0 rfl ?_;refine wpK 1 rfl ?_;refine wpK 2 rfl ?_;refine wpK 3 rfl ?_;refine wpK 4 rfl ?_;refine wpK 5 rfl ?_;refine wpK 6 rfl ?_;refine wpK 7 rfl ?_;refine wpK 8 rfl ?_;refine wpK 9 rfl ?_;refine wpK 10 rfl ?_;refine wpK 11 rfl ?_;refine wpK 12 rfl ?_;refine wpK 13 rfl ?_;refine wpK 14 rfl ?_;refine wpK 15 rfl ?_;refine wpR [16] ?_;refine wpC rfl (fun K hK=> ?_) AllReadyH.nil;go_simp
        (first
  |(go_at_call 90;refine(Zd9 (F:=F) (v:=0) (HOps.upd XL0.out.1 (uH.trans hHeld.1) (fun _ _=>id)) XL.out.2.2.1 hE.out).mono ?_;rintro e w3 ⟨rfl,hu3⟩))
        try (go_wp2_with fail)
        refine hK.out _ _ ?_ (fun hHeld=> ?_)
        ·(first|exact⟨UA.out.drew,g0,g1,k0,k1,k2,p0⟩|exact⟨hHeld.1.trans hu3,hu3.keepNo hHeld.2.1,hu3.keepNo hHeld.2.2.1,hu3.keepNo hHeld.2.2.2.1,hu3.keepNo hHeld.2.2.2.2.1,hu3.keepNo hHeld.2.2.2.2.2.1,hu3.keepNo hHeld.2.2.2.2.2.2⟩)
        clear hK K
        try simp only[Act.put,sT,sS,sZ]
        refine wpK 17 rfl ?_;refine wpK 18 rfl ?_;refine wpK 19 rfl ?_;refine wpK 20 rfl ?_;refine wpK 21 rfl ?_;refine wpR [22] ?_;refine wpC rfl (fun K hK=> ?_) AllReadyH.nil;go_simp
        (first
  |(go_at_call 91;refine(ZfJ (F:=F) (v:=false) (H.upd (uH.trans hHeld.1) (fun _ _=>id)) (HOps.upd XL0.out.1 (uH.trans hHeld.1) (fun _ _=>id)) XL.out.2.2.1 hN.out).mono ?_;rintro e w3 ⟨rfl,hu3⟩))
        try (go_wp2_with fail)
        refine hK.out _ _ ?_ (fun hHeld=> ?_)
        ·(first|exact⟨UA.out.drew,g0,g1,k0,k1,k2,p0⟩|exact⟨hHeld.1.trans hu3,hu3.keepNo hHeld.2.1,hu3.keepNo hHeld.2.2.1,hu3.keepNo hHeld.2.2.2.1,hu3.keepNo hHeld.2.2.2.2.1,hu3.keepNo hHeld.2.2.2.2.2.1,hu3.keepNo hHeld.2.2.2.2.2.2⟩)
        clear hK K
        try simp only[Act.put,sT,sS,sZ]
        refine wpK 23 rfl ?_;refine wpK 24 rfl ?_;refine wpD (NoPanic.normal ?_);have HU:=Qh hHeld.1;clear hHeld;go_wp2
        go_ret
        exact⟨by rw[hf.out];rfl,uH.trans HU.out⟩
       ·have HA:=Qh (Zcz hall.out (by rw[hok.out,hah.out];rfl));have g0:=bH.out.cell 0;have g1:=bH.out.cell 1;have k0:=bo.out.cell 0;have k1:=bo.out.cell 1;have k2:=bo.out.cell 2;simp only[Qz,Qs]at g0 g1 k0 k1 k2;go_wp2;refine wp_region_noPanic ?_;refine wp_region_held_drew (S:=(fun w'=>Upd No (w.alloc (.cells #[.slice (some ad) txs.length c,.slice B ords.length d] 50)) w'∧w'.cell? ⟨w.heap.size,0,none⟩=some (.slice (some ad) txs.length c)∧w'.cell? ⟨w.heap.size,1,none⟩=some (.slice B ords.length d)∧w'.cell? ⟨wr.heap.size,0,none⟩=some (.int .i64 x.id)∧w'.cell? ⟨wr.heap.size,1,none⟩=some (.bool x.done)∧w'.cell? ⟨wr.heap.size,2,none⟩=some (.slice x.A x.ops.length x.c)∧w'.cell? (ad.add ((k-1)*3))=some (.int .i64 y))) (by kernel_rfl) ?_ (fun hHeld=> ?_)
        ·(first|exact⟨UA.out.drew,g0,g1,k0,k1,k2,p0⟩|exact⟨hHeld.1.trans hu3,hu3.keepNo hHeld.2.1,hu3.keepNo hHeld.2.2.1,hu3.keepNo hHeld.2.2.2.1,hu3.keepNo hHeld.2.2.2.2.1,hu3.keepNo hHeld.2.2.2.2.2.1,hu3.keepNo hHeld.2.2.2.2.2.2⟩)
        refine wpK 0 rfl ?_;refine wpK 1 rfl ?_;refine wpK 2 rfl ?_;refine wpK 3 rfl ?_;refine wpK 4 rfl ?_;refine wpK 5 rfl ?_;refine wpK 6 rfl ?_;refine wpK 7 rfl ?_;refine wpK 8 rfl ?_;refine wpK 9 rfl ?_;refine wpK 10 rfl ?_;refine wpK 11 rfl ?_;refine wpK 12 rfl ?_;refine wpK 13 rfl ?_;refine wpK 14 rfl ?_;refine wpK 15 rfl ?_;refine wpR [16] ?_;refine wpC rfl (fun K hK=> ?_) AllReadyH.nil;go_simp
        (first
  |(go_at_call 90;refine(Zd9 (F:=F) (v:=0) (HOps.upd XL0.out.1 (uH.trans hHeld.1) (fun _ _=>id)) XL.out.2.2.1 hE.out).mono ?_;rintro e w3 ⟨rfl,hu3⟩))
        try (go_wp2_with fail)
        refine hK.out _ _ ?_ (fun hHeld=> ?_)
        ·(first|exact⟨UA.out.drew,g0,g1,k0,k1,k2,p0⟩|exact⟨hHeld.1.trans hu3,hu3.keepNo hHeld.2.1,hu3.keepNo hHeld.2.2.1,hu3.keepNo hHeld.2.2.2.1,hu3.keepNo hHeld.2.2.2.2.1,hu3.keepNo hHeld.2.2.2.2.2.1,hu3.keepNo hHeld.2.2.2.2.2.2⟩)
        clear hK K
        try simp only[Act.put,sT,sS,sZ]
        refine wpK 17 rfl ?_;refine wpK 18 rfl ?_;refine wpK 19 rfl ?_;refine wpK 20 rfl ?_;refine wpK 21 rfl ?_;refine wpR [22] ?_;refine wpC rfl (fun K hK=> ?_) AllReadyH.nil;go_simp
        (first
  |(go_at_call 91;refine(ZfJ (F:=F) (v:=true) (H.upd (uH.trans hHeld.1) (fun _ _=>id)) (HOps.upd XL0.out.1 (uH.trans hHeld.1) (fun _ _=>id)) XL.out.2.2.1 hN.out).mono ?_;rintro e w3 ⟨rfl,hu3⟩))
        try (go_wp2_with fail)
        refine hK.out _ _ ?_ (fun hHeld=> ?_)
        ·(first|exact⟨UA.out.drew,g0,g1,k0,k1,k2,p0⟩|exact⟨hHeld.1.trans hu3,hu3.keepNo hHeld.2.1,hu3.keepNo hHeld.2.2.1,hu3.keepNo hHeld.2.2.2.1,hu3.keepNo hHeld.2.2.2.2.1,hu3.keepNo hHeld.2.2.2.2.2.1,hu3.keepNo hHeld.2.2.2.2.2.2⟩)
        clear hK K
        try simp only[Act.put,sT,sS,sZ]
        refine wpK 23 rfl ?_;refine wpK 24 rfl ?_;refine wpD (NoPanic.normal ?_);have HU:=Qh hHeld.1;clear hHeld;go_wp2
        go_roundg (gk-1)
        case measure=>omega
        case rel=>exact⟨k+1,by omega,by go_num,Qh HA.out,HU.out⟩
      ·have hEb:(E != 0)=true:=by simpa using hE1
       have hf:=Qh (show Zb ⟨txs,ords,some ad,c,B,d⟩=false from Zem (k:=k) hlt (by rw[hok.out,beq_eq_false_iff_ne.2 hE1];simp));clear hE1;have g0:=bH.out.cell 0;have g1:=bH.out.cell 1;have k0:=bo.out.cell 0;have k1:=bo.out.cell 1;have k2:=bo.out.cell 2;simp only[Qz,Qs]at g0 g1 k0 k1 k2;go_wp2;refine wp_region_noPanic ?_;refine wp_region_held_drew (S:=(fun w'=>Upd No (w.alloc (.cells #[.slice (some ad) txs.length c,.slice B ords.length d] 50)) w'∧w'.cell? ⟨w.heap.size,0,none⟩=some (.slice (some ad) txs.length c)∧w'.cell? ⟨w.heap.size,1,none⟩=some (.slice B ords.length d)∧w'.cell? ⟨wr.heap.size,0,none⟩=some (.int .i64 x.id)∧w'.cell? ⟨wr.heap.size,1,none⟩=some (.bool x.done)∧w'.cell? ⟨wr.heap.size,2,none⟩=some (.slice x.A x.ops.length x.c)∧w'.cell? (ad.add ((k-1)*3))=some (.int .i64 y))) (by kernel_rfl) ?_ (fun hHeld=> ?_)
       ·(first|exact⟨UA.out.drew,g0,g1,k0,k1,k2,p0⟩|exact⟨hHeld.1.trans hu3,hu3.keepNo hHeld.2.1,hu3.keepNo hHeld.2.2.1,hu3.keepNo hHeld.2.2.2.1,hu3.keepNo hHeld.2.2.2.2.1,hu3.keepNo hHeld.2.2.2.2.2.1,hu3.keepNo hHeld.2.2.2.2.2.2⟩)
       refine wpK 0 rfl ?_;refine wpK 1 rfl ?_;refine wpK 2 rfl ?_;refine wpK 3 rfl ?_;refine wpK 4 rfl ?_;refine wpK 5 rfl ?_;refine wpK 6 rfl ?_;refine wpK 7 rfl ?_;refine wpK 8 rfl ?_;refine wpK 9 rfl ?_;refine wpK 10 rfl ?_;refine wpK 11 rfl ?_;refine wpK 12 rfl ?_;refine wpK 13 rfl ?_;refine wpK 14 rfl ?_;refine wpK 15 rfl ?_;refine wpR [16] ?_;refine wpC rfl (fun K hK=> ?_) AllReadyH.nil;go_simp
       (first
  |(go_at_call 90;refine(Zd9 (F:=F) (v:=E) (HOps.upd XL0.out.1 (uH.trans hHeld.1) (fun _ _=>id)) XL.out.2.2.1 hE.out).mono ?_;rintro e w3 ⟨rfl,hu3⟩))
       try (go_wp2_with fail)
       refine hK.out _ _ ?_ (fun hHeld=> ?_)
       ·(first|exact⟨UA.out.drew,g0,g1,k0,k1,k2,p0⟩|exact⟨hHeld.1.trans hu3,hu3.keepNo hHeld.2.1,hu3.keepNo hHeld.2.2.1,hu3.keepNo hHeld.2.2.2.1,hu3.keepNo hHeld.2.2.2.2.1,hu3.keepNo hHeld.2.2.2.2.2.1,hu3.keepNo hHeld.2.2.2.2.2.2⟩)
       clear hK K
       try simp only[Act.put,sT,sS,sZ]
       refine wpK 17 rfl ?_;refine wpK 18 rfl ?_;refine wpK 19 rfl ?_;refine wpN 20 rfl ?_;refine wpN 21 rfl ?_;refine wpR [22] ?_;refine wpC rfl (fun K hK=> ?_) AllReadyH.nil;go_simp;refine hK.out _ _ ?_ (fun hHeld=> ?_)
       ·exact hHeld
       clear hK K
       try simp only[Act.put,sT,sS,sZ]
       refine wpN 23 rfl ?_;refine wpK 24 rfl ?_;refine wpD (NoPanic.normal ?_);have HU:=Qh hHeld.1;clear hHeld;go_wp2
       go_ret
       exact⟨by rw[hf.out];rfl,uH.trans HU.out⟩
   ·obtain rfl:k=txs.length:=by omega
    have hall1:=Qh hall.out;have hg0:=bH0.out.upd hu id;have g0':=hg0.cell 0;have g1':=hg0.cell 1;simp only[Qz,Qs]at g0' g1';have HW:=Qh (ZqW F _ ⟨txs,ords,A,c,B,d⟩ (H.upd (uH.trans hu) (fun _ _=>id)) (by show txs.length≤4096;omega));clear hg0
    go_wp2_with fail
    refine(HW.out).mono ?_;rintro e w1 ⟨b,m,rfl,hb1,hb2,hmk,hms,hu1⟩;have bH1:=Qh ((bH0.out.upd hu id).upd hu1 id);have U1:=Qh ((uH.trans hu).trans hu1);have hln:=Zhd Tryz.underlying125 hms.is;have hml:m.length=(Zal txs []).length:=by rw[←hmk,List.length_map]
    have g1:=bH1.out.cell 1;simp only[Qz,Qs]at g1;have HMS:=Qh hms;have hln':=fun ty=>hln ty
    clear g0' g1' hms hmk hln hu1 hall
    by_cases hle:(Zal txs []).length=ords.length
    ·have hne:((m.length:Int) != (ords.length:Int))=false:=by rw[hml,hle];simp
     have hlb:=Qh (show((Zal (Hist.txs ⟨txs,ords,A,c,B,d⟩) []).length==(Hist.ords ⟨txs,ords,A,c,B,d⟩).length)=true by show((Zal txs []).length==ords.length)=true;rw[hle];simp);clear hml hle;go_wp2;clear hln' hne
     go_loopg [57] ords.length (fun gk i wr=>∃(k:Nat),k+gk=ords.length∧i= .int .i64 k∧Hid ((List.range k).all (ZdE txs ords)=true)∧Upd No w1 wr)
     case atStart=>exact⟨0,by omega,rfl,Qh rfl,Upd.refl No _⟩
     case round=>
      obtain⟨k,hgk,rfl,hall2,hu2⟩:=hrel
      by_cases hlt:k<ords.length
      ·have H1:=H.upd (U1.out.trans hu2) (fun _ _=>id);obtain⟨ad,hAd,q0,q1⟩:=H1.ord_at hlt;simp only at hAd q0 q1;have hx0:=H.ord ords[k] (List.getElem_mem hlt);obtain⟨x,hx⟩:∃x,ords[k]=x:=⟨_,rfl⟩;rw[hx]at q0 q1 hx0;subst hAd;have X:=Qh hx;have XL0:=Qh hx0;have b1:(0:Int)≤(k:Int):=Qn _;have b2:(k:Int)<(ords.length:Int):=by omega
       have uA:=(Upd.refl No wr).alloc (.cells #[.int .i64 x.key,.slice x.A x.txs.length x.c] 102);have bo:=Qh (Blk.new wr 102 [.int .i64 x.key,.slice x.A x.txs.length x.c]);have bH:=Qh ((bH1.out.upd hu2 id).upd uA id);have UA:=Qh (hu2.trans uA);obtain⟨Ar,cr,hrow,how⟩:=HMS.out.row x.key;have e1:=ZG Zdj Tryz.underlying125 Zod (HMS.out.is.upd UA.out.drew id) x.key;rw[hrow]at e1;have hIw:=Qh (Ints.of_own how);have hwl:=Qh (show(Zy txs x.key).length≤17592186044415 from Nat.le_trans (ZhM txs x.key) (by omega));clear hx hx0 hrow how;obtain⟨N,hN0⟩:∃N,Zh7 x.txs (Zy txs x.key)=N:=⟨_,rfl⟩;have hN:=Qh hN0;have hok:=Qh (show ZdE txs ords k=(ZeC ords k x.key&& !x.txs.isEmpty&&N) by rw[ZqF hlt X.out,←Zqy,hN0]);clear hN0
       by_cases hk0:k=0
       ·have hah:=Qh (show ZeC ords k x.key=true by rw[hk0];rfl);have hkk:decide ((0:Int)<(k:Int))=false:=decide_eq_false (by omega);have hkn:decide (0<k)=false:=decide_eq_false (by omega);clear hk0 H1
        by_cases hE1:x.txs.length=0
        ·have hE0:x.txs=[]:=List.eq_nil_of_length_eq_zero hE1;have hf:=Qh (show Zb ⟨txs,ords,A,c,some ad,d⟩=false from ZdJ (k:=k) hlt (by rw[hok.out,hE0];simp));have hEb:((x.txs.length:Int)==0)=true:=by rw[beq_iff_eq];omega
         clear hE1 hE0;have g1:=bH.out.cell 1;have k0:=bo.out.cell 0;have k1:=bo.out.cell 1;simp only[Qz,Qs]at g1 k0 k1;go_wp2;refine wp_region_noPanic ?_;refine wp_region_held_drew (S:=(fun w'=>Upd No w1 w'∧w'.cell? ⟨w.heap.size,1,none⟩=some (.slice (some ad) ords.length d)∧w'.cell? ⟨wr.heap.size,0,none⟩=some (.int .i64 x.key)∧w'.cell? ⟨wr.heap.size,1,none⟩=some (.slice x.A x.txs.length x.c))) (by kernel_rfl) ?_ (fun hHeld=> ?_)
         ·(first|exact⟨UA.out.drew,g1,k0,k1⟩|exact⟨hHeld.1.trans hu3,hu3.keepNo hHeld.2.1,hu3.keepNo hHeld.2.2.1,hu3.keepNo hHeld.2.2.2⟩)
         refine wpK 0 rfl ?_;refine wpK 1 rfl ?_;refine wpK 2 rfl ?_;refine wpN 3 rfl ?_;refine wpN 4 rfl ?_;refine wpN 5 rfl ?_;refine wpN 6 rfl ?_;refine wpN 7 rfl ?_;refine wpN 8 rfl ?_;refine wpN 9 rfl ?_;refine wpN 10 rfl ?_;refine wpN 11 rfl ?_;refine wpN 12 rfl ?_;refine wpK 13 rfl ?_;refine wpK 14 rfl ?_;refine wpK 15 rfl ?_;refine wpK 16 rfl ?_;refine wpK 17 rfl ?_;refine wpK 18 rfl ?_;refine wpK 19 rfl ?_;refine wpK 20 rfl ?_;refine wpN 21 rfl ?_;refine wpN 22 rfl ?_;refine wpN 23 rfl ?_;refine wpN 24 rfl ?_;refine wpN 25 rfl ?_;refine wpR [26] ?_;refine wpC rfl (fun K hK=> ?_) AllReadyH.nil;go_simp;refine hK.out _ _ ?_ (fun hHeld=> ?_)
         ·exact hHeld
         clear hK K
         try simp only[Act.put,sT,sS,sZ]
         refine wpR [27] ?_;refine wpC rfl (fun K hK=> ?_) AllReadyH.nil;go_simp;refine hK.out _ _ ?_ (fun hHeld=> ?_)
         ·exact hHeld
         clear hK K
         try simp only[Act.put,sT,sS,sZ]
         refine wpN 28 rfl ?_;refine wpK 29 rfl ?_;refine wpD (NoPanic.normal ?_);have HU:=Qh hHeld.1;clear hHeld;go_wp2
         go_ret
         exact⟨by rw[hf.out];rfl,U1.out.trans HU.out⟩
        ·have hE0:x.txs.isEmpty=false:=by
          cases hh:x.txs with
          |nil=>rw[hh]at hE1;exact absurd rfl hE1
          |cons a l=>rfl
         have hEb:((x.txs.length:Int)==0)=false:=by rw[beq_eq_false_iff_ne];omega
         have HE0:=Qh hE0;clear hE1 hE0
         cases N
         ·have hf:=Qh (show Zb ⟨txs,ords,A,c,some ad,d⟩=false from ZdJ (k:=k) hlt (by rw[hok.out];simp));have g1:=bH.out.cell 1;have k0:=bo.out.cell 0;have k1:=bo.out.cell 1;simp only[Qz,Qs]at g1 k0 k1;go_wp2;refine wp_region_noPanic ?_;refine wp_region_held_drew (S:=(fun w'=>Upd No w1 w'∧w'.cell? ⟨w.heap.size,1,none⟩=some (.slice (some ad) ords.length d)∧w'.cell? ⟨wr.heap.size,0,none⟩=some (.int .i64 x.key)∧w'.cell? ⟨wr.heap.size,1,none⟩=some (.slice x.A x.txs.length x.c))) (by kernel_rfl) ?_ (fun hHeld=> ?_)
          ·(first|exact⟨UA.out.drew,g1,k0,k1⟩|exact⟨hHeld.1.trans hu3,hu3.keepNo hHeld.2.1,hu3.keepNo hHeld.2.2.1,hu3.keepNo hHeld.2.2.2⟩)
          refine wpK 0 rfl ?_;refine wpK 1 rfl ?_;refine wpK 2 rfl ?_;refine wpN 3 rfl ?_;refine wpN 4 rfl ?_;refine wpN 5 rfl ?_;refine wpN 6 rfl ?_;refine wpN 7 rfl ?_;refine wpN 8 rfl ?_;refine wpN 9 rfl ?_;refine wpN 10 rfl ?_;refine wpN 11 rfl ?_;refine wpN 12 rfl ?_;refine wpK 13 rfl ?_;refine wpK 14 rfl ?_;refine wpK 15 rfl ?_;refine wpK 16 rfl ?_;refine wpK 17 rfl ?_;refine wpK 18 rfl ?_;refine wpK 19 rfl ?_;refine wpK 20 rfl ?_;refine wpK 21 rfl ?_;refine wpK 22 rfl ?_;refine wpK 23 rfl ?_;refine wpK 24 rfl ?_;refine wpK 25 rfl ?_;refine wpR [26] ?_;refine wpC rfl (fun K hK=> ?_) AllReadyH.nil;go_simp;refine hK.out _ _ ?_ (fun hHeld=> ?_)
          ·(first|exact⟨UA.out.drew,g1,k0,k1⟩|exact⟨hHeld.1.trans hu3,hu3.keepNo hHeld.2.1,hu3.keepNo hHeld.2.2.1,hu3.keepNo hHeld.2.2.2⟩)
          clear hK K
          try simp only[Act.put,sT,sS,sZ]
          refine wpR [27] ?_;refine wpC rfl (fun K hK=> ?_) AllReadyH.nil;go_simp
          (first
  |(go_at_call 73;refine(Zia (v:=false) (XL0.out.1.upd (U1.out.trans hHeld.1) (fun _ _=>id)) (hIw.out.upd hHeld.1 (fun _ _=>id)) XL0.out.2.2.1 hwl.out hN.out).mono ?_;rintro e w3 ⟨rfl,hu3⟩))
          try (go_wp2_with fail)
          refine hK.out _ _ ?_ (fun hHeld=> ?_)
          ·(first|exact⟨UA.out.drew,g1,k0,k1⟩|exact⟨hHeld.1.trans hu3,hu3.keepNo hHeld.2.1,hu3.keepNo hHeld.2.2.1,hu3.keepNo hHeld.2.2.2⟩)
          clear hK K
          try simp only[Act.put,sT,sS,sZ]
          refine wpK 28 rfl ?_;refine wpK 29 rfl ?_;refine wpD (NoPanic.normal ?_);have HU:=Qh hHeld.1;clear hHeld;go_wp2
          go_ret
          exact⟨by rw[hf.out];rfl,U1.out.trans HU.out⟩
         ·have HA:=Qh (Zcz hall2.out (by rw[hok.out,hah.out,HE0.out];rfl));have g1:=bH.out.cell 1;have k0:=bo.out.cell 0;have k1:=bo.out.cell 1;simp only[Qz,Qs]at g1 k0 k1;go_wp2;refine wp_region_noPanic ?_;refine wp_region_held_drew (S:=(fun w'=>Upd No w1 w'∧w'.cell? ⟨w.heap.size,1,none⟩=some (.slice (some ad) ords.length d)∧w'.cell? ⟨wr.heap.size,0,none⟩=some (.int .i64 x.key)∧w'.cell? ⟨wr.heap.size,1,none⟩=some (.slice x.A x.txs.length x.c))) (by kernel_rfl) ?_ (fun hHeld=> ?_)
          ·(first|exact⟨UA.out.drew,g1,k0,k1⟩|exact⟨hHeld.1.trans hu3,hu3.keepNo hHeld.2.1,hu3.keepNo hHeld.2.2.1,hu3.keepNo hHeld.2.2.2⟩)
          refine wpK 0 rfl ?_;refine wpK 1 rfl ?_;refine wpK 2 rfl ?_;refine wpN 3 rfl ?_;refine wpN 4 rfl ?_;refine wpN 5 rfl ?_;refine wpN 6 rfl ?_;refine wpN 7 rfl ?_;refine wpN 8 rfl ?_;refine wpN 9 rfl ?_;refine wpN 10 rfl ?_;refine wpN 11 rfl ?_;refine wpN 12 rfl ?_;refine wpK 13 rfl ?_;refine wpK 14 rfl ?_;refine wpK 15 rfl ?_;refine wpK 16 rfl ?_;refine wpK 17 rfl ?_;refine wpK 18 rfl ?_;refine wpK 19 rfl ?_;refine wpK 20 rfl ?_;refine wpK 21 rfl ?_;refine wpK 22 rfl ?_;refine wpK 23 rfl ?_;refine wpK 24 rfl ?_;refine wpK 25 rfl ?_;refine wpR [26] ?_;refine wpC rfl (fun K hK=> ?_) AllReadyH.nil;go_simp;refine hK.out _ _ ?_ (fun hHeld=> ?_)
          ·(first|exact⟨UA.out.drew,g1,k0,k1⟩|exact⟨hHeld.1.trans hu3,hu3.keepNo hHeld.2.1,hu3.keepNo hHeld.2.2.1,hu3.keepNo hHeld.2.2.2⟩)
          clear hK K
          try simp only[Act.put,sT,sS,sZ]
          refine wpR [27] ?_;refine wpC rfl (fun K hK=> ?_) AllReadyH.nil;go_simp
          (first
  |(go_at_call 73;refine(Zia (v:=true) (XL0.out.1.upd (U1.out.trans hHeld.1) (fun _ _=>id)) (hIw.out.upd hHeld.1 (fun _ _=>id)) XL0.out.2.2.1 hwl.out hN.out).mono ?_;rintro e w3 ⟨rfl,hu3⟩))
          try (go_wp2_with fail)
          refine hK.out _ _ ?_ (fun hHeld=> ?_)
          ·(first|exact⟨UA.out.drew,g1,k0,k1⟩|exact⟨hHeld.1.trans hu3,hu3.keepNo hHeld.2.1,hu3.keepNo hHeld.2.2.1,hu3.keepNo hHeld.2.2.2⟩)
          clear hK K
          try simp only[Act.put,sT,sS,sZ]
          refine wpK 28 rfl ?_;refine wpK 29 rfl ?_;refine wpD (NoPanic.normal ?_);have HU:=Qh hHeld.1;clear hHeld;go_wp2
          go_roundg (gk-1)
          case measure=>omega
          case rel=>exact⟨k+1,by omega,by go_num,Qh HA.out,HU.out⟩
       ·obtain⟨ad2,hAd2,p0,_⟩:=H1.ord_at (k:=k-1) (show k-1<ords.length by omega);simp only at hAd2 p0
        cases hAd2
        obtain⟨y',hy'⟩:∃y',ords[k-1]'(by omega)=y':=⟨_,rfl⟩;rw[hy']at p0
        replace p0:=uA.keepNo p0
        have hkp:0<k:=by omega
        by_cases hordL:x.key≤y'.key
        ·have hf:=Qh (show Zb ⟨txs,ords,A,c,some ad,d⟩=false from ZdJ (k:=k) hlt (by rw[hok.out,ZpV hkp hlt hy' x.key hordL];simp));obtain⟨y,hy⟩:∃y,y'.key=y:=⟨_,rfl⟩;rw[hy]at p0 hordL;clear hy hy' H1;have hge:decide (x.key≤y)=true:=decide_eq_true hordL;have hkk:decide ((0:Int)<(k:Int))=true:=decide_eq_true (by omega);have hkn:decide (0<k)=true:=decide_eq_true (by omega);have hw1:IntKind.i64.wrap ((k:Int)-1)=(k:Int)-1:=IntWalk.i64_in _ (by omega);have hw2:(0:Int)≤(k:Int)-1:=by omega
         have hw3:(1:Int)≤(k:Int):=by omega
         have hw4:(k:Int)-1<(ords.length:Int):=by omega
         have hw5:((k:Int)-1).toNat=k-1:=by omega
         have g1:=bH.out.cell 1;have k0:=bo.out.cell 0;have k1:=bo.out.cell 1;simp only[Qz,Qs]at g1 k0 k1;go_wp2;refine wp_region_noPanic ?_;refine wp_region_held_drew (S:=(fun w'=>Upd No w1 w'∧w'.cell? ⟨w.heap.size,1,none⟩=some (.slice (some ad) ords.length d)∧w'.cell? ⟨wr.heap.size,0,none⟩=some (.int .i64 x.key)∧w'.cell? ⟨wr.heap.size,1,none⟩=some (.slice x.A x.txs.length x.c)∧w'.cell? (ad.add ((k-1)*2))=some (.int .i64 y))) (by kernel_rfl) ?_ (fun hHeld=> ?_)
         ·(first|exact⟨UA.out.drew,g1,k0,k1,p0⟩|exact⟨hHeld.1.trans hu3,hu3.keepNo hHeld.2.1,hu3.keepNo hHeld.2.2.1,hu3.keepNo hHeld.2.2.2.1,hu3.keepNo hHeld.2.2.2.2⟩)
         refine wpK 0 rfl ?_;refine wpK 1 rfl ?_;refine wpK 2 rfl ?_;refine wpK 3 rfl ?_;refine wpK 4 rfl ?_;refine wpK 5 rfl ?_;refine wpK 6 rfl ?_;refine wpK 7 rfl ?_;refine wpK 8 rfl ?_;refine wpK 9 rfl ?_;refine wpK 10 rfl ?_;refine wpK 11 rfl ?_;refine wpK 12 rfl ?_;refine wpK 13 rfl ?_;refine wpK 14 rfl ?_;refine wpN 15 rfl ?_;refine wpN 16 rfl ?_;refine wpN 17 rfl ?_;refine wpN 18 rfl ?_;refine wpK 19 rfl ?_;refine wpK 20 rfl ?_;refine wpN 21 rfl ?_;refine wpN 22 rfl ?_;refine wpN 23 rfl ?_;refine wpN 24 rfl ?_;refine wpN 25 rfl ?_;refine wpR [26] ?_;refine wpC rfl (fun K hK=> ?_) AllReadyH.nil;go_simp;refine hK.out _ _ ?_ (fun hHeld=> ?_)
         ·exact hHeld
         clear hK K
         try simp only[Act.put,sT,sS,sZ]
         refine wpR [27] ?_;refine wpC rfl (fun K hK=> ?_) AllReadyH.nil;go_simp;refine hK.out _ _ ?_ (fun hHeld=> ?_)
         ·exact hHeld
         clear hK K
         try simp only[Act.put,sT,sS,sZ]
         refine wpN 28 rfl ?_;refine wpK 29 rfl ?_;refine wpD (NoPanic.normal ?_);have HU:=Qh hHeld.1;clear hHeld;go_wp2
         go_ret
         exact⟨by rw[hf.out];rfl,U1.out.trans HU.out⟩
        ·have hah:=Qh (show ZeC ords k x.key=true from Zn7 hkp hlt hy' x.key (by omega));obtain⟨y,hy⟩:∃y,y'.key=y:=⟨_,rfl⟩;rw[hy]at p0 hordL;clear hy hy' H1;have hge:decide (x.key≤y)=false:=decide_eq_false hordL;have hkk:decide ((0:Int)<(k:Int))=true:=decide_eq_true (by omega);have hkn:decide (0<k)=true:=decide_eq_true (by omega);have hw1:IntKind.i64.wrap ((k:Int)-1)=(k:Int)-1:=IntWalk.i64_in _ (by omega);have hw2:(0:Int)≤(k:Int)-1:=by omega
         have hw3:(1:Int)≤(k:Int):=by omega
         have hw4:(k:Int)-1<(ords.length:Int):=by omega
         have hw5:((k:Int)-1).toNat=k-1:=by omega
         by_cases hE1:x.txs.length=0
         ·have hE0:x.txs=[]:=List.eq_nil_of_length_eq_zero hE1;have hf:=Qh (show Zb ⟨txs,ords,A,c,some ad,d⟩=false from ZdJ (k:=k) hlt (by rw[hok.out,hE0];simp));have hEb:((x.txs.length:Int)==0)=true:=by rw[beq_iff_eq];omega
          clear hE1 hE0;have g1:=bH.out.cell 1;have k0:=bo.out.cell 0;have k1:=bo.out.cell 1;simp only[Qz,Qs]at g1 k0 k1;go_wp2;refine wp_region_noPanic ?_;refine wp_region_held_drew (S:=(fun w'=>Upd No w1 w'∧w'.cell? ⟨w.heap.size,1,none⟩=some (.slice (some ad) ords.length d)∧w'.cell? ⟨wr.heap.size,0,none⟩=some (.int .i64 x.key)∧w'.cell? ⟨wr.heap.size,1,none⟩=some (.slice x.A x.txs.length x.c)∧w'.cell? (ad.add ((k-1)*2))=some (.int .i64 y))) (by kernel_rfl) ?_ (fun hHeld=> ?_)
          ·(first|exact⟨UA.out.drew,g1,k0,k1,p0⟩|exact⟨hHeld.1.trans hu3,hu3.keepNo hHeld.2.1,hu3.keepNo hHeld.2.2.1,hu3.keepNo hHeld.2.2.2.1,hu3.keepNo hHeld.2.2.2.2⟩)
          refine wpK 0 rfl ?_;refine wpK 1 rfl ?_;refine wpK 2 rfl ?_;refine wpK 3 rfl ?_;refine wpK 4 rfl ?_;refine wpK 5 rfl ?_;refine wpK 6 rfl ?_;refine wpK 7 rfl ?_;refine wpK 8 rfl ?_;refine wpK 9 rfl ?_;refine wpK 10 rfl ?_;refine wpK 11 rfl ?_;refine wpK 12 rfl ?_;refine wpK 13 rfl ?_;refine wpK 14 rfl ?_;refine wpK 15 rfl ?_;refine wpK 16 rfl ?_;refine wpK 17 rfl ?_;refine wpK 18 rfl ?_;refine wpK 19 rfl ?_;refine wpK 20 rfl ?_;refine wpN 21 rfl ?_;refine wpN 22 rfl ?_;refine wpN 23 rfl ?_;refine wpN 24 rfl ?_;refine wpN 25 rfl ?_;refine wpR [26] ?_;refine wpC rfl (fun K hK=> ?_) AllReadyH.nil;go_simp;refine hK.out _ _ ?_ (fun hHeld=> ?_)
          ·exact hHeld
          clear hK K
          try simp only[Act.put,sT,sS,sZ]
          refine wpR [27] ?_;refine wpC rfl (fun K hK=> ?_) AllReadyH.nil;go_simp;refine hK.out _ _ ?_ (fun hHeld=> ?_)
          ·exact hHeld
          clear hK K
          try simp only[Act.put,sT,sS,sZ]
          refine wpN 28 rfl ?_;refine wpK 29 rfl ?_;refine wpD (NoPanic.normal ?_);have HU:=Qh hHeld.1;clear hHeld;go_wp2
          go_ret
          exact⟨by rw[hf.out];rfl,U1.out.trans HU.out⟩
         ·have hE0:x.txs.isEmpty=false:=by
           cases hh:x.txs with
           |nil=>rw[hh]at hE1;exact absurd rfl hE1
           |cons a l=>rfl
          have hEb:((x.txs.length:Int)==0)=false:=by rw[beq_eq_false_iff_ne];omega
          have HE0:=Qh hE0;clear hE1 hE0
          cases N
          ·have hf:=Qh (show Zb ⟨txs,ords,A,c,some ad,d⟩=false from ZdJ (k:=k) hlt (by rw[hok.out];simp));have g1:=bH.out.cell 1;have k0:=bo.out.cell 0;have k1:=bo.out.cell 1;simp only[Qz,Qs]at g1 k0 k1;go_wp2;refine wp_region_noPanic ?_;refine wp_region_held_drew (S:=(fun w'=>Upd No w1 w'∧w'.cell? ⟨w.heap.size,1,none⟩=some (.slice (some ad) ords.length d)∧w'.cell? ⟨wr.heap.size,0,none⟩=some (.int .i64 x.key)∧w'.cell? ⟨wr.heap.size,1,none⟩=some (.slice x.A x.txs.length x.c)∧w'.cell? (ad.add ((k-1)*2))=some (.int .i64 y))) (by kernel_rfl) ?_ (fun hHeld=> ?_)
           ·(first|exact⟨UA.out.drew,g1,k0,k1,p0⟩|exact⟨hHeld.1.trans hu3,hu3.keepNo hHeld.2.1,hu3.keepNo hHeld.2.2.1,hu3.keepNo hHeld.2.2.2.1,hu3.keepNo hHeld.2.2.2.2⟩)
           refine wpK 0 rfl ?_;refine wpK 1 rfl ?_;refine wpK 2 rfl ?_;refine wpK 3 rfl ?_;refine wpK 4 rfl ?_;refine wpK 5 rfl ?_;refine wpK 6 rfl ?_;refine wpK 7 rfl ?_;refine wpK 8 rfl ?_;refine wpK 9 rfl ?_;refine wpK 10 rfl ?_;refine wpK 11 rfl ?_;refine wpK 12 rfl ?_;refine wpK 13 rfl ?_;refine wpK 14 rfl ?_;refine wpK 15 rfl ?_;refine wpK 16 rfl ?_;refine wpK 17 rfl ?_;refine wpK 18 rfl ?_;refine wpK 19 rfl ?_;refine wpK 20 rfl ?_;refine wpK 21 rfl ?_;refine wpK 22 rfl ?_;refine wpK 23 rfl ?_;refine wpK 24 rfl ?_;refine wpK 25 rfl ?_;refine wpR [26] ?_;refine wpC rfl (fun K hK=> ?_) AllReadyH.nil;go_simp;refine hK.out _ _ ?_ (fun hHeld=> ?_)
           ·(first|exact⟨UA.out.drew,g1,k0,k1,p0⟩|exact⟨hHeld.1.trans hu3,hu3.keepNo hHeld.2.1,hu3.keepNo hHeld.2.2.1,hu3.keepNo hHeld.2.2.2.1,hu3.keepNo hHeld.2.2.2.2⟩)
           clear hK K
           try simp only[Act.put,sT,sS,sZ]
           refine wpR [27] ?_;refine wpC rfl (fun K hK=> ?_) AllReadyH.nil;go_simp
           (first
  |(go_at_call 73;refine(Zia (v:=false) (XL0.out.1.upd (U1.out.trans hHeld.1) (fun _ _=>id)) (hIw.out.upd hHeld.1 (fun _ _=>id)) XL0.out.2.2.1 hwl.out hN.out).mono ?_;rintro e w3 ⟨rfl,hu3⟩))
           try (go_wp2_with fail)
           refine hK.out _ _ ?_ (fun hHeld=> ?_)
           ·(first|exact⟨UA.out.drew,g1,k0,k1,p0⟩|exact⟨hHeld.1.trans hu3,hu3.keepNo hHeld.2.1,hu3.keepNo hHeld.2.2.1,hu3.keepNo hHeld.2.2.2.1,hu3.keepNo hHeld.2.2.2.2⟩)
           clear hK K
           try simp only[Act.put,sT,sS,sZ]
           refine wpK 28 rfl ?_;refine wpK 29 rfl ?_;refine wpD (NoPanic.normal ?_);have HU:=Qh hHeld.1;clear hHeld;go_wp2
           go_ret
           exact⟨by rw[hf.out];rfl,U1.out.trans HU.out⟩
          ·have HA:=Qh (Zcz hall2.out (by rw[hok.out,hah.out,HE0.out];rfl));have g1:=bH.out.cell 1;have k0:=bo.out.cell 0;have k1:=bo.out.cell 1;simp only[Qz,Qs]at g1 k0 k1;go_wp2;refine wp_region_noPanic ?_;refine wp_region_held_drew (S:=(fun w'=>Upd No w1 w'∧w'.cell? ⟨w.heap.size,1,none⟩=some (.slice (some ad) ords.length d)∧w'.cell? ⟨wr.heap.size,0,none⟩=some (.int .i64 x.key)∧w'.cell? ⟨wr.heap.size,1,none⟩=some (.slice x.A x.txs.length x.c)∧w'.cell? (ad.add ((k-1)*2))=some (.int .i64 y))) (by kernel_rfl) ?_ (fun hHeld=> ?_)
           ·(first|exact⟨UA.out.drew,g1,k0,k1,p0⟩|exact⟨hHeld.1.trans hu3,hu3.keepNo hHeld.2.1,hu3.keepNo hHeld.2.2.1,hu3.keepNo hHeld.2.2.2.1,hu3.keepNo hHeld.2.2.2.2⟩)
           refine wpK 0 rfl ?_;refine wpK 1 rfl ?_;refine wpK 2 rfl ?_;refine wpK 3 rfl ?_;refine wpK 4 rfl ?_;refine wpK 5 rfl ?_;refine wpK 6 rfl ?_;refine wpK 7 rfl ?_;refine wpK 8 rfl ?_;refine wpK 9 rfl ?_;refine wpK 10 rfl ?_;refine wpK 11 rfl ?_;refine wpK 12 rfl ?_;refine wpK 13 rfl ?_;refine wpK 14 rfl ?_;refine wpK 15 rfl ?_;refine wpK 16 rfl ?_;refine wpK 17 rfl ?_;refine wpK 18 rfl ?_;refine wpK 19 rfl ?_;refine wpK 20 rfl ?_;refine wpK 21 rfl ?_;refine wpK 22 rfl ?_;refine wpK 23 rfl ?_;refine wpK 24 rfl ?_;refine wpK 25 rfl ?_;refine wpR [26] ?_;refine wpC rfl (fun K hK=> ?_) AllReadyH.nil;go_simp;refine hK.out _ _ ?_ (fun hHeld=> ?_)
           ·(first|exact⟨UA.out.drew,g1,k0,k1,p0⟩|exact⟨hHeld.1.trans hu3,hu3.keepNo hHeld.2.1,hu3.keepNo hHeld.2.2.1,hu3.keepNo hHeld.2.2.2.1,hu3.keepNo hHeld.2.2.2.2⟩)
           clear hK K
           try simp only[Act.put,sT,sS,sZ]
           refine wpR [27] ?_;refine wpC rfl (fun K hK=> ?_) AllReadyH.nil;go_simp
           (first
  |(go_at_call 73;refine(Zia (v:=true) (XL0.out.1.upd (U1.out.trans hHeld.1) (fun _ _=>id)) (hIw.out.upd hHeld.1 (fun _ _=>id)) XL0.out.2.2.1 hwl.out hN.out).mono ?_;rintro e w3 ⟨rfl,hu3⟩))
           try (go_wp2_with fail)
           refine hK.out _ _ ?_ (fun hHeld=> ?_)
           ·(first|exact⟨UA.out.drew,g1,k0,k1,p0⟩|exact⟨hHeld.1.trans hu3,hu3.keepNo hHeld.2.1,hu3.keepNo hHeld.2.2.1,hu3.keepNo hHeld.2.2.2.1,hu3.keepNo hHeld.2.2.2.2⟩)
           clear hK K
           try simp only[Act.put,sT,sS,sZ]
           refine wpK 28 rfl ?_;refine wpK 29 rfl ?_;refine wpD (NoPanic.normal ?_);have HU:=Qh hHeld.1;clear hHeld;go_wp2
           go_roundg (gk-1)
           case measure=>omega
           case rel=>exact⟨k+1,by omega,by go_num,Qh HA.out,HU.out⟩
      ·obtain rfl:k=ords.length:=by omega
       have hv:=Qh (ZoE (h:=⟨txs,ords,A,c,B,d⟩) (by show txs.length≤4096;omega) hall1.out hlb.out hall2.out);go_wp2
       go_ret
       exact⟨by rw[hv.out];rfl,U1.out.trans hu2⟩
    ·have hne:((m.length:Int) != (ords.length:Int))=true:=by rw[hml,bne_iff_ne];omega
     have hf:=Qh (show Zb ⟨txs,ords,A,c,B,d⟩=false from ZoG (by show((Zal txs []).length==ords.length)=false;rw[beq_eq_false_iff_ne];exact hle));clear hml hle;go_wp2
     go_ret
     exact⟨by rw[hf.out];rfl,U1.out⟩
end
/- What the document tells of histories,in plain words;it is what the program tells. -/
section
open Go.RowKit
def Znj (a b:List Int):Bool:=a.length==b.length&&a.all fun x=>a.count x==b.count x
theorem ZfZ:∀(a b:List Int),a.length=b.length→(∀x∈a,a.count x=b.count x)→a.Perm b
 |[],b,hl,_=>by
  have:b=[]:=List.eq_nil_of_length_eq_zero (by simpa using hl.symm);subst this;exact List.Perm.refl _
 |x::a,b,hl,h=>by
  have hx:=h x (List.mem_cons_self ..)
  have hxb:x∈b:=by
   rw[List.count_cons_self]at hx;exact List.count_pos_iff.1 (by omega)
  have hp:=List.perm_cons_erase hxb;refine((ZfZ a (b.erase x) ?_ fun y hy=> ?_).cons x).trans hp.symm
  ·have:=hp.length_eq;simp only[List.length_cons]at*;omega
  ·have h1:=h y (List.mem_cons_of_mem _ hy);rw[hp.count_eq]at h1;simp only[List.count_cons]at h1;omega
theorem Zk1 (a b:List Int):Znj a b=(Zbt a==Zbt b):=by
 rw[Bool.eq_iff_iff];unfold Znj;simp only[Bool.and_eq_true,beq_iff_eq,List.all_eq_true]
 constructor
 ·rintro⟨h1,h2⟩;have hp:=ZfZ a b h1 h2;exact Zjt (((ZaR a).trans hp).trans (ZaR b).symm) (Zei a) (Zei b)
 ·intro h;have hp:a.Perm b:=((ZaR a).symm.trans (by rw[h];exact ZaR b));exact⟨hp.length_eq,fun x _=>hp.count_eq x⟩
/-! keys -/
theorem Zd1 {l:List Int} (h:l.Pairwise (·<·)):l.Nodup:=h.imp fun h=>Int.ne_of_lt h
/-! is a history right,by the document -/
theorem Zmw {l:List Int} (h:∀i,i+1<l.length→l.getD i 0<l.getD (i+1) 0):l.Pairwise (·<·):=by
 have key:∀d i:Nat,i+d+1<l.length→l.getD i 0<l.getD (i+d+1) 0:=by
  intro d
  induction d with
  |zero=>intro i hi;exact h i hi
  |succ d ih=>
   intro i hi;have h1:=ih i (by omega);have h2:=h (i+d+1) (by omega);exact Int.lt_trans h1 h2
 rw[List.pairwise_iff_getElem];intro i j hi hj hij;have:=key (j-i-1) i (by omega);rw[show i+(j-i-1)+1=j by omega]at this
 simpa[List.getD_eq_getElem?_getD,Qg hi,Qg hj]using this
theorem Zk7 {txs:List HTx} {ords:List HOrd} {i:Nat} (hi:i<ords.length):ZdE txs ords i=true↔(∀j,j+1=i→(ords.map (·.key)).getD j 0<ords[i].key)∧ords[i].txs≠[]∧Znj ords[i].txs (Zy txs ords[i].key)=true:=by
 unfold ZdE;rw[Qg hi,Zk1]
 cases i with
 |zero=>simp
 |succ j=>
  have hj:j<ords.length:=by omega
  simp only[Qg hj];simp[List.getD_eq_getElem?_getD,Qg hj]
  grind
end
end Go.Proofs.YtonblekdfinpkaaGreat
