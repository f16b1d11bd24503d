/- The keys that a transaction writes. -/
import Derived.Shelf.SlicesG.CompactI
import Derived.Test.YtblplapkdmhikaaGreatDbae
import Derived.Test.YtblplapkdmhikaaGreatDbam
import Derived.Test.YtblplapkdmhikaaGreatDban
import Derived.Test.YtblplapkdmhikaaGreatDbax
import Derived.Test.YtblplapkdmhikaaGreatDbbc
namespace Go.Proofs.YtblplapkdmhikaaGreat
set_option linter.unusedVariables false
set_option linter.unusedSimpArgs false
section
open Go.RowKit
theorem Ze5 (w:World) (base:Nat) (A:Option Addr) (c:Nat) (l:List Int) (hown:w.ownsRow base 3 1 (.slice A l.length c) l.length (l.map (Value.int .i64))) (hl:l.length≤17592186044415):
  Calls Tryz.prog 87 #[.slice A l.length c] w fun e w'=>e= .returned (.slice A (Lib.compact l).length c)∧w'.ownsRow base 3 1 (.slice A (Lib.compact l).length c) (Lib.compact l).length ((Lib.compact l).map (Value.int .i64))∧Upd (Own (.slice A l.length c)) w w':=by
 rcases hown.2 with ⟨hv,hn⟩|⟨g,cap,cur,hv,hbg,hg,hnc,hcm,hcs,htake⟩
 ·have hl0:l=[]:=List.eq_nil_of_length_eq_zero hn;subst hl0;refine Calls.mono (AnyG.slices_Compact_int_empty Zeg A c w) ?_;rintro e w' ⟨rfl,rfl⟩;exact⟨rfl,hown,Upd.refl _ _⟩
 ·cases hv
  have hb:Blk w g 3 cur.toList:=by unfold Blk;rw[Array.toArray_toList];exact hg
  have hcs':cur.size=c:=by simpa using hcs
  have htake':cur.toList.take l.length=l.map (Value.int .i64):=by simpa using htake
  have hH:Sort.Holds (Value.int .i64) w g 0 l.toArray:=fun j hj=>by
   simp only[List.size_toArray]at hj;rw[Nat.zero_add];refine⟨?_,hb.free j⟩;rw[hb.cell j];have h1:(cur.toList.take l.length)[j]? =cur.toList[j]? :=by rw[List.getElem?_take,if_pos hj]
   rw[←h1,htake',List.getElem?_map,Qg hj];simp[hj]
  have hlt:=hb.lt;have hcl:(Lib.compact l).length≤l.length:=by rw[Zf3];exact Zgp _ _
  refine Calls.mono (AnyG.slices_Compact_int Zeg g 0 c l w hH (by omega) hnc) ?_;rintro e w' ⟨rfl,q,rfl⟩;obtain⟨R,hR,hRl⟩:∃R:List Int,R=Lib.compact l++List.replicate (l.length-(Lib.compact l).length) 0∧R.length=l.length:=⟨_,rfl,by simp;omega⟩
  have e1:(Sort.putRow (Value.int .i64) (Sort.ahead w q) g 0 (Lib.compact l++List.replicate (l.length-(Lib.compact l).length) 0).toArray).heap[g]? =some (.cells (Sort.putCells (Value.int .i64) 0 R.toArray cur) 3 (0,0)):=by
   unfold Sort.putRow Sort.mapBlock;simp only;rw[Array.getElem?_modify];simp only[if_true];rw[show(Sort.ahead w q).heap=w.heap from rfl,hg,hR];rfl
  rw[ZgH _ _ (by simp only[List.size_toArray];omega)]at e1;refine⟨rfl,⟨by simp,.inr ⟨g,c,_,rfl,hbg,e1,by omega,hcm,?_,?_⟩⟩,⟨rfl,rfl,rfl,?_,fun k hk hn=> ?_⟩⟩
  ·simp only[List.size_toArray,List.length_append,List.length_map,List.length_drop,Array.length_toList,hRl];omega
  ·rw[Nat.mul_one]
   show List.take _ (List.map (Value.int .i64) R++_)=_
   rw[hR,List.map_append,List.append_assoc,List.take_append_of_le_length (by simp),List.take_of_length_le (by simp)]
  ·unfold Sort.putRow Sort.mapBlock;simp only[Array.size_modify];exact Nat.le_refl _
  ·have hne:g≠k:=fun e=>hn (by unfold Own;rw[e];rfl)
   unfold Sort.putRow Sort.mapBlock;simp only;rw[Array.getElem?_modify,if_neg hne];rfl
theorem ZjA {l:List HOp} {k:Nat} {x:HOp} (hk:k<l.length) (hx:l[k]=x) (hr:x.read=false):ZD (l.take (k+1)) (fun o=> !o.read)=ZD (l.take k) (fun o=> !o.read)++[x.key]:=by
 subst hx;unfold ZD;rw[List.take_succ_eq_append_getElem hk,List.filter_append,List.map_append,List.filter_cons_of_pos (by rw[hr];rfl)];rfl
theorem ZkN {l:List HOp} {k:Nat} {x:HOp} (hk:k<l.length) (hx:l[k]=x) (hr:x.read=true):ZD (l.take (k+1)) (fun o=> !o.read)=ZD (l.take k) (fun o=> !o.read):=by
 subst hx;unfold ZD;rw[List.take_succ_eq_append_getElem hk,List.filter_append,List.map_append,List.filter_cons_of_neg (by rw[hr];decide)];simp
theorem ZgX (l:List HOp) (f:HOp→Bool):(ZD l f).length≤l.length:=by
 unfold ZD;rw[List.length_map];exact List.length_filter_le _ _
set_option maxRecDepth 100000 in
set_option maxHeartbeats 1000000 in
theorem ZoF (F:Nat→Prop) (w:World) (i0:Int) (dn:Bool) (A:Option Addr) (c:Nat) (l:List HOp) (h:HOps F w A l) (hl:Zg l.length):
  Calls Tryz.prog 175 #[.agg #[.int .i64 i0,.bool dn,.slice A l.length c],.func (.func 198) #[] #[]] w (Zgx w (ZY l)):=by
 unfold Zg at hl
 go_enter Tryz.func175,Tryz.ntmps175
 go_wp2
 go_loopg [5,11] l.length (fun gk s i wr=>∃(k:Nat) (A5:Option Addr) (c5:Nat) (xs:List Int),k+gk=l.length∧i= .int .i64 k∧s= .slice A5 xs.length c5∧Hid (xs=ZD (l.take k) fun o=> !o.read)∧xs.length≤k∧
  wr.ownsRow w.heap.size 3 1 (.slice A5 xs.length c5) xs.length (xs.map (Value.int .i64))∧Upd No w wr)
 case atStart=>exact⟨0,none,0,[],by omega,rfl,rfl,Qh (by simp[ZD]),by simp,World.ownsRow_nil _ _ _ _,(Upd.refl _ _).alloc _⟩
 case round=>
  obtain⟨k,A5,c5,xs,hgk,rfl,rfl,hxs,hxl,hown,hu⟩:=hrel
  by_cases hlt:k<l.length
  ·obtain⟨ad,hAd,q0,q1,q2,q3⟩:=(h.upd hu (fun _ _=>id)).at_ hlt;obtain⟨x,hx⟩:∃x,l[k]=x:=⟨_,rfl⟩;rw[hx]at q0 q1 q2 q3;subst hAd;have X:=Qh hx;clear hx;have b1:(0:Int)≤(k:Int):=Qn _;have b2:(k:Int)<(l.length:Int):=by omega
   have uA:=(Upd.refl No wr).alloc (.cells #[.bool x.read,.int .i64 x.key,.int .i64 x.tx,.int .i64 x.nth] 95);have bo:=Blk.new wr 95 [.bool x.read,.int .i64 x.key,.int .i64 x.tx,.int .i64 x.nth];have hown1:=Zb hown uA (fun _ _=>id)
   cases hr:x.read
   ·rw[hr]at q0 uA bo hown1;have HS:=Qh (ZjA hlt X.out hr);have Hr:=Qh hr;clear hr
    go_wp2_with fail
    refine(ZiR _ ⟨false,x.key,x.tx,x.nth⟩).mono ?_;rintro e w1 ⟨rfl,hu1⟩;have bo1:=bo.upd hu1 id;have g1:=bo1.cell 1;simp only[Qz,Qs]at g1;have hown2:=Zb hown1 hu1 (fun _ _=>id);have hz1:=(uA.trans hu1).size;have hz0:=hu.size;have Hu1:=Qh ((hu.trans uA).trans hu1);clear hown1 uA hu1
    go_wp2_with (at_builtin;refine Zag rfl rfl Zcn (v:= .slice A5 xs.length c5) (cells:=[.int .i64 x.key]) (by rfl) rfl hown2 rfl rfl (by omega) (by omega) (by omega) ?_;intro g' c' w2 hown3 hu3 hg3 hlt3)
    go_roundg (gk-1)
    case measure=>omega
    case rel=>
     refine⟨k+1,some ⟨g',0,none⟩,c',xs++[x.key],by omega,by go_num,by simp,Qh (by rw[HS.out,hxs.out]),by simp;omega,by simpa using hown3,Hu1.out.then_ hu3 fun i e=> ?_⟩;exact .inr (hown2.lt i e).1
   ·rw[hr]at q0 uA bo hown1;have HS:=Qh (ZkN hlt X.out hr);have Hr:=Qh hr;clear hr
    go_wp2_with fail
    refine(ZiR _ ⟨true,x.key,x.tx,x.nth⟩).mono ?_;rintro e w1 ⟨rfl,hu1⟩;have Hu1:=Qh ((hu.trans uA).trans hu1);have hown2:=Zb hown1 hu1 (fun _ _=>id);clear hown1 uA hu1;go_wp2
    go_roundg (gk-1)
    case measure=>omega
    case rel=>exact⟨k+1,A5,c5,xs,by omega,by go_num,rfl,Qh (by rw[HS.out,hxs.out]),by omega,hown2,Hu1.out⟩
  ·obtain rfl:k=l.length:=by omega
   have Hx:=Qh (show xs=ZD l fun o=> !o.read by rw[hxs.out,List.take_length]);clear hxs;have hsl:=Qh (Zbz xs);have Hk:=Qh (show Lib.compact (ZM xs)=ZY l by rw[Zct,Hx.out];rfl)
   go_wp2_with fail
   refine(ZfQ _ _ A5 c5 xs hown (by omega)).mono ?_;rintro e w1 ⟨rfl,ho1,hu1⟩;have ho1':w1.ownsRow w.heap.size 3 1 (.slice A5 (ZM xs).length c5) (ZM xs).length ((ZM xs).map (Value.int .i64)):=by rw[hsl.out];exact ho1
   have hic:=Ze5 w1 w.heap.size A5 c5 (ZM xs) ho1' (by rw[hsl.out];omega);rw[Hk.out,hsl.out]at hic;have Hic:=Qh hic;have hge:=Qh (show∀i,Own (.slice A5 xs.length c5) i→w.heap.size≤i from fun i e=>(hown.lt i e).1);clear hic ho1 ho1' hown
   go_wp2_with fail
   refine(Hic.out).mono ?_;rintro e w2 ⟨rfl,ho2,hu2⟩;go_wp2
   go_ret
   exact⟨A5,c5,rfl,ho2,(hu.then_ hu1 fun i e=> .inr (hge.out i e)).then_ hu2 fun i e=> .inr (hge.out i e)⟩
set_option maxRecDepth 100000 in
theorem ZoG (F:Nat→Prop) (w:World) (i0:Int) (dn:Bool) (A:Option Addr) (c:Nat) (l:List HOp) (h:HOps F w A l) (hl:Zg l.length):
  Calls Tryz.prog 116 #[.agg #[.int .i64 i0,.bool dn,.slice A l.length c]] w (Zgx w (ZY l)):=by
 have h1:=h.upd ((Upd.refl No w).alloc (.cells #[.int .i64 i0,.bool dn,.slice A l.length c] 81)) (fun _ _=>id)
 go_enter Tryz.func116,Tryz.ntmps116
 go_wp2_with fail
 refine(ZoF F _ i0 dn A c l h1 hl).mono ?_;rintro e w1 ⟨A1,c1,rfl,ho,hu⟩;go_wp2
 go_ret
 exact⟨A1,c1,rfl,ZK ho (by simp),((Upd.refl No w).alloc _).trans hu⟩
end
/- Who writes each key. -/
section
open Go.RowKit
structure MapSl (w:World) (base b:Nat) (m:List (Int×Value)) (f:Int→List Int):Prop where
 is:MapIs w b (fun n:Int=>Value.int .i64 n) m
 row:∀key,∃A c,(Zz m key).getD (.slice none 0 0)= .slice A (f key).length c∧w.ownsRow base 3 1 (.slice A (f key).length c) (f key).length ((f key).map (Value.int .i64))
 apart:∀k1 k2,k1≠k2→∀i,Own ((Zz m k1).getD (.slice none 0 0)) i→¬Own ((Zz m k2).getD (.slice none 0 0)) i
theorem MapSl.upd {S:Nat→Prop} {w w':World} {base b:Nat} {m:List (Int×Value)} {f:Int→List Int} (h:MapSl w base b m f) (k:Upd S w w') (hb:¬S b) (hS:∀i,base≤i→i<w.heap.size→¬S i):MapSl w' base b m f:=by
 refine⟨h.is.upd k hb,fun key=> ?_,h.apart⟩;obtain⟨A,c,h1,h2⟩:=h.row key;exact⟨A,c,h1,Zb h2 k fun i hi=>by have:=h2.lt i hi;exact hS i this.1 this.2⟩
theorem MapSl.new {w:World} {base b:Nat} (h:MapIs w b (fun n:Int=>Value.int .i64 n) []):MapSl w base b [] fun _=>[]:=
 ⟨h,fun _=>⟨none,0,rfl,World.ownsRow_nil _ _ _ _⟩,fun _ _ _ i hi=>by simp[Zbt,Own,Value.ownBlock]at hi⟩
theorem MapSl.congr {w:World} {base b:Nat} {m:List (Int×Value)} {f g:Int→List Int} (h:MapSl w base b m f) (hfg:∀key,f key=g key):MapSl w base b m g:=by
 have:f=g:=funext hfg;rw[←this];exact h
theorem MapSl.put {w w1 w2:World} {base b:Nat} {m:List (Int×Value)} {f:Int→List Int} {key x:Int} {A A':Option Addr} {c c':Nat} (h:MapSl w base b m f)
  (hA:(Zz m key).getD (.slice none 0 0)= .slice A (f key).length c) (hb:b<base)
  (hown:w1.ownsRow base 3 1 (.slice A' ((f key).length+1) c') ((f key).length+1) ((f key++[x]).map (Value.int .i64)))
  (hu1:Upd (Own (.slice A (f key).length c)) w w1) (hg:∀i,Own (.slice A' ((f key).length+1) c') i→Own (.slice A (f key).length c) i∨w.heap.size≤i)
  (hm2:MapIs w2 b (fun n:Int=>Value.int .i64 n) (Zs m key (.slice A' ((f key).length+1) c'))) (hu2:Upd (One b) w1 w2):
  MapSl w2 base b (Zs m key (.slice A' ((f key).length+1) c')) (fun k=>if k=key then f key++[x] else f k):=by
 have hB:∀i,base≤i→¬One b i:=fun i hi e=>by cases e;omega
 refine⟨hm2,fun k=> ?_,fun k1 k2 hne i hi hi2=> ?_⟩
 ·by_cases hk:k=key
  ·subst hk;simp only[if_true];refine⟨A',c',by rw[ZI];simp,?_⟩;have:=Zb hown hu2 fun i hi=>hB i (hown.lt i hi).1
   simpa using this
  ·simp only[if_neg hk];obtain⟨B,d,h1,h2⟩:=h.row k;refine⟨B,d,by rw[Z7 _ _ hk];exact h1,Zb (Zb h2 hu1 fun i hi e=> ?_) hu2 fun i hi=>hB i (h2.lt i hi).1⟩;exact h.apart k key hk i (by rw[h1];exact hi) (by rw[hA];exact e)
 ·by_cases e1:k1=key
  ·subst e1;have hne2:k2≠k1:=fun e=>hne e.symm
   rw[ZI]at hi;rw[Z7 _ _ hne2]at hi2;rcases hg i hi with hi|hi
   ·exact h.apart k1 k2 hne i (by rw[hA];exact hi) hi2
   ·obtain⟨B,d,h1,h2⟩:=h.row k2;rw[h1]at hi2;have:=(h2.lt i hi2).2;omega
  ·rw[Z7 _ _ e1]at hi
   by_cases e2:k2=key
   ·subst e2;rw[ZI]at hi2;rcases hg i hi2 with hi2|hi2
    ·exact h.apart k1 k2 hne i hi (by rw[hA];exact hi2)
    ·obtain⟨B,d,h1,h2⟩:=h.row k1;rw[h1]at hi;have:=(h2.lt i hi).2;omega
   ·rw[Z7 _ _ e2]at hi2;exact h.apart k1 k2 hne i hi hi2
theorem Ziy (s a b:List Int):Za6 s (a++b)=Za6 (Za6 s a) b:=by
 induction a generalizing s with
 |nil=>rfl
 |cons x a ih=>exact ih _
theorem Zlk (m:List (Int×Value)) (key:Int) (v:Value) (s ks:List Int) (h:m.map (·.1)=Za6 s ks):(Zs m key v).map (·.1)=Za6 s (ks++[key]):=by
 rw[ZkD,Ziy,h];rfl
theorem Zhs (a b:List HTx) (s:List Int):Zv (a++b) s=Zv b (Zv a s):=by
 induction a generalizing s with
 |nil=>rfl
 |cons x a ih=>exact ih _
theorem Zfi {txs:List HTx} {k:Nat} {x:HTx} (hk:k<txs.length) (hx:txs[k]=x):Zv (txs.take (k+1)) []=if x.done then Za6 (Zv (txs.take k) []) (ZY x.ops) else Zv (txs.take k) []:=by
 subst hx;rw[List.take_succ_eq_append_getElem hk,Zhs];rfl
theorem ZdJ {txs:List HTx} {k:Nat} {x:HTx} (hk:k<txs.length) (hx:txs[k]=x) (key:Int):Zh (txs.take (k+1)) key=Zh (txs.take k) key++if x.done=true∧key∈ZY x.ops then [x.id] else []:=by
 subst hx;unfold Zh;rw[List.take_succ_eq_append_getElem hk,List.filter_append,List.map_append]
 congr 1
 by_cases h:txs[k].done=true∧key∈ZY txs[k].ops
 ·rw[if_pos h,List.filter_cons_of_pos (by rw[h.1];simpa using h.2)];rfl
 ·rw[if_neg h,List.filter_cons_of_neg (by
   intro e;simp only[Bool.and_eq_true,List.contains_iff_mem]at e;exact h e)]
  rfl
def wrF (txs:List HTx) (k:Nat) (id:Int) (ks:List Int) (key:Int):List Int:=Zh (txs.take k) key++if key∈ks then [id] else []
theorem ZmK (txs:List HTx) (k:Nat) (id key:Int) (ks:List Int) (hn:key∉ks) (u:Int):(if u=key then wrF txs k id ks key++[id] else wrF txs k id ks u)=wrF txs k id (ks++[key]) u:=by
 unfold wrF
 by_cases h:u=key
 ·subst h;rw[if_pos rfl,if_neg hn,if_pos (by simp),List.append_nil]
 ·rw[if_neg h]
  congr 1
  simp[h]
theorem ZmL (txs:List HTx) (k:Nat) (id u:Int):Zh (txs.take k) u=wrF txs k id [] u:=by unfold wrF;simp
theorem Zfh (txs:List HTx) (key:Int):(Zh txs key).length≤txs.length:=by
 unfold Zh;rw[List.length_map];exact List.length_filter_le _ _
theorem Zns (txs:List HTx) (k:Nat) (id:Int) (ks:List Int) (key:Int):(wrF txs k id ks key).length≤k+1:=by
 unfold wrF;rw[List.length_append];have h1:=Zfh (txs.take k) key;have h2:=List.length_take_le k txs
 split<;>simp<;>omega
theorem Zj6 (w:World):(zeroValue 64).run Tryz.prog w= .ok (.slice none 0 0) w:=by kernel_rfl
def Zph (w:World) (txs:List HTx) (e:Ending) (w':World):Prop:=∃b m,e= .returned (.map (some b))∧w.heap.size≤b∧b<w.heap.size+2∧m.map (·.1)=Zv txs []∧MapSl w' (w.heap.size+2) b m (Zh txs)∧Upd No w w'
def Apart (m:List (Int×Value)) (g:Nat) (v:Value):Prop:=∀key i,Own ((Zz m key).getD (.slice none 0 0)) i→i≠g∧¬Own v i
theorem Apart.put {m:List (Int×Value)} {g z:Nat} {v old new:Value} {key:Int} (h:Apart m g v) (ho:(Zz m key).getD (.slice none 0 0)=old) (hn:∀i,Own new i→Own old i∨z≤i) (hg:g<z) (hv:∀i,Own v i→i<z):Apart (Zs m key new) g v:=fun k i hi=>by
 by_cases e:k=key
 ·subst e;rw[ZI]at hi;rcases hn i hi with h1|h1
  ·exact h k i (by rw[ho];exact h1)
  ·exact⟨by omega,fun h2=>by have:=hv i h2;omega⟩
 ·rw[Z7 _ _ e]at hi;exact h k i hi
theorem MapSl.block_lt {w:World} {base b:Nat} {m:List (Int×Value)} {f:Int→List Int} (h:MapSl w base b m f) (key:Int) (i:Nat) (hi:Own ((Zz m key).getD (.slice none 0 0)) i):base≤i∧i<w.heap.size:=by
 obtain⟨A,c,h1,h2⟩:=h.row key;rw[h1]at hi;exact h2.lt i hi
set_option maxRecDepth 100000 in
set_option maxHeartbeats 4000000 in
theorem Zl1 (F:Nat→Prop) (w:World) (h:Hist) (H:h.lies F w) (hs:h.txs.length≤4096):Calls Tryz.prog 65 #[h.val] w (Zph w h.txs):=by
 obtain⟨txs,ords,A,c,B,d⟩:=h;simp only at hs;unfold Hist.val;have uH:=(Upd.refl No w).alloc (.cells #[.slice A txs.length c,.slice B ords.length d] 29);have hmm:= @run_makeMap Tryz.prog;have hn0:=MapIs.new (α:=Int) (w.alloc (.cells #[.slice A txs.length c,.slice B ords.length d] 29)) (fun n:Int=>Value.int .i64 n);simp only[World.size_alloc]at hn0;have HN:=Qh (MapSl.new (base:=w.heap.size+2) hn0);clear hn0
 go_enter Tryz.func65,Tryz.ntmps65
 go_wp2
 go_loopg [12] txs.length (fun gk i wr=>∃(k:Nat) (m:List (Int×Value)),k+gk=txs.length∧i= .int .i64 k∧Hid (MapSl wr (w.heap.size+2) (w.heap.size+1) m (Zh (txs.take k)))∧Hid (m.map (·.1)=Zv (txs.take k) [])∧
  Upd No (w.alloc (.cells #[.slice A txs.length c,.slice B ords.length d] 29)) wr)
 case atStart=>exact⟨0,[],by omega,rfl,Qh HN.out,Qh rfl,(Upd.refl No _).alloc _⟩
 case round=>
  obtain⟨k,m,hgk,rfl,hm,hk,hu⟩:=hrel;clear hmm
  by_cases hlt:k<txs.length
  ·have H1:=H.upd (uH.trans hu) (fun _ _=>id);obtain⟨ad,hAd,q0,q1,q2⟩:=H1.tx_at hlt;simp only at hAd q0 q1 q2;have hx1:=H1.tx txs[k] (List.getElem_mem hlt);obtain⟨x,hx⟩:∃x,txs[k]=x:=⟨_,rfl⟩;rw[hx]at q0 q1 q2 hx1;subst hAd;have X:=Qh hx;have XL:=Qh hx1;have b1:(0:Int)≤(k:Int):=Qn _;have b2:(k:Int)<(txs.length:Int):=by omega
   have uA:=(Upd.refl No wr).alloc (.cells #[.int .i64 x.id,.bool x.done,.slice x.A x.ops.length x.c] 81);have bo:=Qh (Blk.new wr 81 [.int .i64 x.id,.bool x.done,.slice x.A x.ops.length x.c]);have hm1:=Qh (hm.out.upd uA id (fun _ _ _=>id));clear hx hx1 H1
   cases hd:x.done
   ·rw[hd]at q1 uA bo;have HS:=Qh (show Zv (txs.take (k+1)) []=Zv (txs.take k) [] by rw[Zfi hlt X.out,hd];rfl);have HW:=Qh (show∀key,Zh (txs.take k) key=Zh (txs.take (k+1)) key from fun key=>by rw[ZdJ hlt X.out,hd];simp);have hm2:=Qh ((hm.out.upd uA id (fun _ _ _=>id)).congr HW.out);clear hd;go_wp2
    go_roundg (gk-1)
    case measure=>omega
    case rel=>exact⟨k+1,m,by omega,by go_num,hm2,Qh (by rw[HS.out];exact hk.out),hu.trans uA⟩
   ·rw[hd]at q1 uA bo;have HS:=Qh (show Zv (txs.take (k+1)) []=Za6 (Zv (txs.take k) []) (ZY x.ops) by rw[Zfi hlt X.out,hd];rfl);have HW:=Qh (show∀key,Zh (txs.take (k+1)) key=wrF txs k x.id (ZY x.ops) key from fun key=>by rw[ZdJ hlt X.out,hd];unfold wrF;simp);have hm2:=Qh ((hm.out.upd uA id (fun _ _ _=>id)).congr (ZmL txs k x.id));clear hd;have hkk:=ZoG F _ x.id true x.A x.c x.ops (HOps.upd XL.out.1 uA (fun _ _=>id)) XL.out.2.2.1;obtain⟨ks,hks⟩:∃ks,ZY x.ops=ks:=⟨_,rfl⟩;rw[hks]at hkk;have HK:=Qh hkk;have HKS:=Qh hks;have hnd:=Qh (show ks.Pairwise (·<·) by rw[←hks];exact Zeq _);have hkl:ks.length≤x.ops.length:=by rw[←hks];exact Nat.le_trans (ZeV _) (ZgX _ _)
    have hxl:=XL.out.2.2.1;unfold Zg at hxl;clear hkk hks
    go_wp2_with fail
    refine(HK.out).mono ?_;rintro e w1 ⟨A1,c1,rfl,ho1,hu1⟩;have hm3:=Qh (hm2.out.upd hu1 id (fun _ _ _=>id));have bo1:=Qh (bo.out.upd hu1 id);have Ho1:=Qh ho1;have hz1:=uA.size;have hz2:=hu1.size;have hz3:=hu.size;have hz4:=hm.out.is.lt;simp only[World.size_alloc]at hz1 hz2 hz3;have HUA:=Qh ((hu.trans uA).trans hu1)
    have hap:Apart m wr.heap.size (.slice A1 ks.length c1):=fun key i hi=>by
     have h1:=hm.out.block_lt key i hi;refine⟨by omega,fun h2=> ?_⟩;have h3:=(ho1.lt i h2).1;simp only[World.size_alloc]at h3;omega
    have Hap:=Qh hap;clear hap ho1 hu1 uA;have hoB:=ZK (b2:=wr.heap.size+1) Ho1.out (by simp);clear Ho1;go_wp2
    generalize wr.heap.size=z5 at*
    generalize gk=GK at*
    go_loopg [22] ks.length (fun gj i wj=>∃(j:Nat) (mj:List (Int×Value)),j+gj=ks.length∧i= .int .i64 j∧Hid (MapSl wj (w.heap.size+2) (w.heap.size+1) mj (wrF txs k x.id (ks.take j)))∧
     Hid (mj.map (·.1)=Za6 (Zv (txs.take k) []) (ks.take j))∧Hid (Apart mj z5 (.slice A1 ks.length c1))∧Hid (Blk wj z5 81 [.int .i64 x.id,.bool true,.slice x.A x.ops.length x.c])∧
     wj.ownsRow (z5+1) 3 1 (.slice A1 ks.length c1) ks.length (ks.map (Value.int .i64))∧Upd No (w.alloc (.cells #[.slice (some ad) txs.length c,.slice B ords.length d] 29)) wj)
    case atStart=>exact⟨0,m,by omega,rfl,hm3,Qh hk.out,Hap,bo1,hoB,HUA.out⟩
    case round=>
     obtain⟨j,mj,hgj,rfl,hmj,hkj,hapj,boj,hoj,huj⟩:=hrel
     by_cases hltj:j<ks.length
     ·have hI:Ints (fun i=>z5+1≤i) _ A1 ks:=Ints.of_own hoj;obtain⟨ad1,hA1,_,_,c0⟩:=hI.at_ hltj;obtain⟨key,hkey⟩:∃key,ks[j]=key:=⟨_,rfl⟩;rw[hkey]at c0;subst hA1;have KE:=Qh hkey;clear hkey hI;have b3:(j:Int)<(ks.length:Int):=by omega
      have b4:(0:Int)≤(j:Int):=Qn _;obtain⟨Ak,ck,hrow,howk⟩:=hmj.out.row key;obtain⟨fk,hfk⟩:∃fk,wrF txs k x.id (ks.take j) key=fk:=⟨_,rfl⟩;have hfl:fk.length≤k+1:=by rw[←hfk];exact Zns txs k x.id _ key
      rw[hfk]at hrow howk;have e1:=Zm ZcA Tryz.underlying117 Zj6 hmj.out.is key;rw[hrow]at e1;have ob0:=boj.out.cell 0;simp only[Qz]at ob0;have Hrow:=Qh hrow;have Hfk:=Qh hfk
      have HP:=Qh (show∀u,(if u=key then wrF txs k x.id (ks.take j) key++[x.id] else wrF txs k x.id (ks.take j) u)=wrF txs k x.id (ks.take (j+1)) u from fun u=>by
       rw[List.take_succ_eq_append_getElem hltj,KE.out];refine ZmK txs k x.id key (ks.take j) (fun hm=> ?_) u;rw[List.mem_take_iff_getElem]at hm;obtain⟨q,hq,e⟩:=hm;have:=List.pairwise_iff_getElem.1 hnd.out q j (by omega) (by omega) (by omega);rw[e,KE.out]at this;exact Int.lt_irrefl _ this)
      have HKJ:=Qh (show∀v,(Zs mj key v).map (·.1)=Za6 (Zv (txs.take k) []) (ks.take (j+1)) from fun v=>by
       rw[List.take_succ_eq_append_getElem hltj,KE.out];exact Zlk mj key v _ _ hkj.out)
      clear hrow hfk;have hzj:=huj.size;simp only[World.size_alloc]at hzj;have hob:=boj.out.lt;have hmi:=Qh hmj.out.is;have hbl:=hmi.out.lt
      go_wp2_with (first
       |(at_builtin;refine Zag rfl rfl Zcn (v:= .slice Ak fk.length ck) (cells:=[.int .i64 x.id]) (by rfl) rfl howk rfl rfl (by omega) (by omega) (by omega) ?_;intro g' c' w4 hown4 hu4 hg4 hlt4)
       |(at_mapUpdate;refine ZkG rfl rfl ZcA Tryz.underlying117 (a:=key) (val:= .slice (some ⟨g',0,none⟩) (fk.length+1) c') (by rfl) (by rfl) (by rfl) (hmi.out.upd hu4 (fun e=>by have:=(howk.lt _ e).1;omega)) ?_;intro w5 hm5 hu5))
      go_roundg (gk-1)
      case measure=>omega
      case rel=>
       have hbase:∀i,Own (.slice Ak fk.length ck) i→w.heap.size+2≤i∧i<_:=fun i hi=>howk.lt i hi
       have hgn:∀i,Own (.slice (some ⟨g',0,none⟩) (fk.length+1) c') i→Own (.slice Ak fk.length ck) i∨_≤i:=fun i hi=>by
        have e:g'=i:=by simpa[Own,Value.ownBlock]using hi
        rw[←e];exact hg4
       have hput:=hmj.out.put (key:=key) (x:=x.id) (A:=Ak) (c:=ck) (by rw[Hrow.out,Hfk.out]) (by omega) (by rw[Hfk.out];simpa using hown4) (by rw[Hfk.out];exact hu4) (by rw[Hfk.out];exact hgn) (by rw[Hfk.out];exact hm5) hu5;refine⟨j+1,_,by omega,by go_num,Qh (hput.congr (g:=wrF txs k x.id (ks.take (j+1))) HP.out),Qh ?_,Qh ?_,Qh ?_,?_,?_⟩
       ·rw[Hfk.out];exact HKJ.out _
       ·rw[Hfk.out];exact hapj.out.put Hrow.out hgn hob (fun i hi=>(hoj.lt i hi).2)
       ·exact(boj.out.upd hu4 (fun e=>(hapj.out key z5 (by rw[Hrow.out];exact e)).1 rfl)).upd hu5 (fun e=>by cases e;omega)
       ·exact Zb (Zb hoj hu4 (fun i hi e=>(hapj.out key i (by rw[Hrow.out];exact e)).2 hi)) hu5 (fun i hi e=>by have:=(hoj.lt i hi).1;cases e;omega)
       ·exact(huj.then_ hu4 fun i e=> .inr (by have:=(hbase i e).1;simp only[World.size_alloc];omega)).then_ hu5 fun i e=> .inr (by cases e;simp)
     ·obtain rfl:j=ks.length:=by omega
      have hmf:=Qh ((show MapSl _ (w.heap.size+2) (w.heap.size+1) mj (wrF txs k x.id ks) by have:=hmj.out;rwa [List.take_length]at this).congr (g:=Zh (txs.take (k+1))) (fun key=>by rw[HW.out,HKS.out]));have hkf:=Qh (show mj.map (·.1)=Zv (txs.take (k+1)) [] by rw[HS.out,HKS.out];have:=hkj.out;rwa [List.take_length]at this);clear hoj;go_wp2
      go_roundg (GK-1)
      case measure=>omega
      case rel=>exact⟨k+1,mj,by omega,by go_num,hmf,hkf,huj⟩
  ·obtain rfl:k=txs.length:=by omega
   have hmf:=Qh (show MapSl _ (w.heap.size+2) (w.heap.size+1) m (Zh txs) by have:=hm.out;rwa [List.take_length]at this);have hkf:=Qh (show m.map (·.1)=Zv txs [] by have:=hk.out;rwa [List.take_length]at this);go_wp2
   go_ret
   exact⟨w.heap.size+1,m,rfl,by omega,by omega,hkf.out,hmf.out,uH.trans hu⟩
end
end Go.Proofs.YtblplapkdmhikaaGreat
