/- The keys that a transaction writes. -/
import Derived.Shelf.SlicesG.CompactI
import Derived.Test.YtblplapkdmhikaaGreatDxad
import Derived.Test.YtblplapkdmhikaaGreatDxak
import Derived.Test.YtblplapkdmhikaaGreatDxam
import Derived.Test.YtblplapkdmhikaaGreatDxan
import Derived.Test.YtblplapkdmhikaaGreatDxav
import Derived.Test.YtblplapkdmhikaaGreatDxaw
import Derived.Test.YtblplapkdmhikaaGreatDxay
import Derived.Test.YtblplapkdmhikaaGreatDxbc
namespace Go.Proofs.YtblplapkdmhikaaGreat
set_option linter.unusedVariables false
set_option linter.unusedSimpArgs false
section
open Go.RowKit
theorem Ziu (w:World) (base:Nat) (A:Option Addr) (c:Nat) (l:List Int) (hown:w.ownsRow base 3 1 (.slice A l.length c) l.length (l.map (Value.int .i64))) (hl:l.length≤17592186044415):
  Calls Tryz.prog 87 #[.slice A l.length c] w fun e w'=>e= .returned (.slice A (Lib.compact l).length c)∧w'.ownsRow base 3 1 (.slice A (Lib.compact l).length c) (Lib.compact l).length ((Lib.compact l).map (Value.int .i64))∧Upd (Own (.slice A l.length c)) w w':=by
 rcases hown.2 with ⟨hv,hn⟩|⟨g,cap,cur,hv,hbg,hg,hnc,hcm,hcs,htake⟩
 ·have hl0:l=[]:=List.eq_nil_of_length_eq_zero hn;subst hl0;refine Calls.mono (AnyG.slices_Compact_int_empty ZcV A c w) ?_;rintro e w' ⟨rfl,rfl⟩;exact⟨rfl,hown,Upd.refl _ _⟩
 ·cases hv
  have hb:Blk w g 3 cur.toList:=by unfold Blk;rw[Array.toArray_toList];exact hg
  have hcs':cur.size=c:=by simpa using hcs
  have htake':cur.toList.take l.length=l.map (Value.int .i64):=by simpa using htake
  have hH:Sort.Holds (Value.int .i64) w g 0 l.toArray:=fun j hj=>by
   simp only[List.size_toArray]at hj;rw[Nat.zero_add];refine⟨?_,hb.free j⟩;rw[hb.cell j];have h1:(cur.toList.take l.length)[j]? =cur.toList[j]? :=by rw[List.getElem?_take,if_pos hj]
   rw[←h1,htake',List.getElem?_map,Qg hj];simp[hj]
  have hlt:=hb.lt;have hcl:(Lib.compact l).length≤l.length:=by rw[ZdP];exact Zd3 _ _
  refine Calls.mono (AnyG.slices_Compact_int ZcV g 0 c l w hH (by omega) hnc) ?_;rintro e w' ⟨rfl,q,rfl⟩;obtain⟨R,hR,hRl⟩:∃R:List Int,R=Lib.compact l++List.replicate (l.length-(Lib.compact l).length) 0∧R.length=l.length:=⟨_,rfl,by simp;omega⟩
  have e1:(Sort.putRow (Value.int .i64) (Sort.ahead w q) g 0 (Lib.compact l++List.replicate (l.length-(Lib.compact l).length) 0).toArray).heap[g]? =some (.cells (Sort.putCells (Value.int .i64) 0 R.toArray cur) 3 (0,0)):=by
   unfold Sort.putRow Sort.mapBlock;simp only;rw[Array.getElem?_modify];simp only[if_true];rw[show(Sort.ahead w q).heap=w.heap from rfl,hg,hR];rfl
  rw[Zee _ _ (by simp only[List.size_toArray];omega)]at e1;refine⟨rfl,⟨by simp,.inr ⟨g,c,_,rfl,hbg,e1,by omega,hcm,?_,?_⟩⟩,⟨rfl,rfl,rfl,?_,fun k hk hn=> ?_⟩⟩
  ·simp only[List.size_toArray,List.length_append,List.length_map,List.length_drop,Array.length_toList,hRl];omega
  ·rw[Nat.mul_one]
   show List.take _ (List.map (Value.int .i64) R++_)=_
   rw[hR,List.map_append,List.append_assoc,List.take_append_of_le_length (by simp),List.take_of_length_le (by simp)]
  ·unfold Sort.putRow Sort.mapBlock;simp only[Array.size_modify];exact Nat.le_refl _
  ·have hne:g≠k:=fun e=>hn (by unfold Own;rw[e];rfl)
   unfold Sort.putRow Sort.mapBlock;simp only;rw[Array.getElem?_modify,if_neg hne];rfl
theorem ZgF {l:List HOp} {k:Nat} {x:HOp} (hk:k<l.length) (hx:l[k]=x) (hr:x.read=false):ZQ (l.take (k+1)) (fun o=> !o.read)=ZQ (l.take k) (fun o=> !o.read)++[x.key]:=by
 subst hx;unfold ZQ;rw[List.take_succ_eq_append_getElem hk,List.filter_append,List.map_append,List.filter_cons_of_pos (by rw[hr];rfl)];rfl
theorem Zhy {l:List HOp} {k:Nat} {x:HOp} (hk:k<l.length) (hx:l[k]=x) (hr:x.read=true):ZQ (l.take (k+1)) (fun o=> !o.read)=ZQ (l.take k) (fun o=> !o.read):=by
 subst hx;unfold ZQ;rw[List.take_succ_eq_append_getElem hk,List.filter_append,List.map_append,List.filter_cons_of_neg (by rw[hr];decide)];simp
theorem Zeq (l:List HOp) (f:HOp→Bool):(ZQ l f).length≤l.length:=by
 unfold ZQ;rw[List.length_map];exact List.length_filter_le _ _
set_option maxRecDepth 100000 in
set_option maxHeartbeats 1000000 in
theorem ZkM (F:Nat→Prop) (w:World) (i0:Int) (dn:Bool) (A:Option Addr) (c:Nat) (l:List HOp) (h:HOps F w A l) (hl:Ze l.length):
  Calls Tryz.prog 175 #[.agg #[.int .i64 i0,.bool dn,.slice A l.length c],.func (.func 198) #[] #[]] w (Zak w (Z0 l)):=by
 unfold Ze at hl
 go_enter Tryz.func175,Tryz.ntmps175
 go_wp2
 go_loopg [5,11] l.length (fun gk s i wr=>∃(k:Nat) (A5:Option Addr) (c5:Nat) (xs:List Int),k+gk=l.length∧i= .int .i64 k∧s= .slice A5 xs.length c5∧Hid (xs=ZQ (l.take k) fun o=> !o.read)∧xs.length≤k∧
  wr.ownsRow w.heap.size 3 1 (.slice A5 xs.length c5) xs.length (xs.map (Value.int .i64))∧Upd No w wr)
 case atStart=>exact⟨0,none,0,[],by omega,rfl,rfl,Qh (by simp[ZQ]),by simp,World.ownsRow_nil _ _ _ _,(Upd.refl _ _).alloc _⟩
 case round=>
  obtain⟨k,A5,c5,xs,hgk,rfl,rfl,hxs,hxl,hown,hu⟩:=hrel
  by_cases hlt:k<l.length
  ·obtain⟨ad,hAd,q0,q1,q2,q3⟩:=(h.upd hu (fun _ _=>id)).at_ hlt;obtain⟨x,hx⟩:∃x,l[k]=x:=⟨_,rfl⟩;rw[hx]at q0 q1 q2 q3;subst hAd;have X:=Qh hx;clear hx;have b1:(0:Int)≤(k:Int):=Qn _;have b2:(k:Int)<(l.length:Int):=by omega
   have uA:=(Upd.refl No wr).alloc (.cells #[.bool x.read,.int .i64 x.key,.int .i64 x.tx,.int .i64 x.nth] 95);have bo:=Blk.new wr 95 [.bool x.read,.int .i64 x.key,.int .i64 x.tx,.int .i64 x.nth];have hown1:=Zb hown uA (fun _ _=>id)
   cases hr:x.read
   ·rw[hr]at q0 uA bo hown1;have HS:=Qh (ZgF hlt X.out hr);have Hr:=Qh hr;clear hr
    go_wp2_with fail
    refine(Zgf _ ⟨false,x.key,x.tx,x.nth⟩).mono ?_;rintro e w1 ⟨rfl,hu1⟩;have bo1:=bo.upd hu1 id;have g1:=bo1.cell 1;simp only[Qz,Qs]at g1;have hown2:=Zb hown1 hu1 (fun _ _=>id);have hz1:=(uA.trans hu1).size;have hz0:=hu.size;have Hu1:=Qh ((hu.trans uA).trans hu1);clear hown1 uA hu1
    go_wp2_with (at_builtin;refine ZS rfl rfl Zq (v:= .slice A5 xs.length c5) (cells:=[.int .i64 x.key]) (by rfl) rfl hown2 rfl rfl (by omega) (by omega) (by omega) ?_;intro g' c' w2 hown3 hu3 hg3 hlt3)
    go_roundg (gk-1)
    case measure=>omega
    case rel=>
     refine⟨k+1,some ⟨g',0,none⟩,c',xs++[x.key],by omega,by go_num,by simp,Qh (by rw[HS.out,hxs.out]),by simp;omega,by simpa using hown3,Hu1.out.then_ hu3 fun i e=> ?_⟩;exact .inr (hown2.lt i e).1
   ·rw[hr]at q0 uA bo hown1;have HS:=Qh (Zhy hlt X.out hr);have Hr:=Qh hr;clear hr
    go_wp2_with fail
    refine(Zgf _ ⟨true,x.key,x.tx,x.nth⟩).mono ?_;rintro e w1 ⟨rfl,hu1⟩;have Hu1:=Qh ((hu.trans uA).trans hu1);have hown2:=Zb hown1 hu1 (fun _ _=>id);clear hown1 uA hu1;go_wp2
    go_roundg (gk-1)
    case measure=>omega
    case rel=>exact⟨k+1,A5,c5,xs,by omega,by go_num,rfl,Qh (by rw[HS.out,hxs.out]),by omega,hown2,Hu1.out⟩
  ·obtain rfl:k=l.length:=by omega
   have Hx:=Qh (show xs=ZQ l fun o=> !o.read by rw[hxs.out,List.take_length]);clear hxs;have hsl:=Qh (Zd9 xs);have Hk:=Qh (show Lib.compact (ZV xs)=Z0 l by rw[ZeW,Hx.out];rfl)
   go_wp2_with fail
   refine(ZiV _ _ A5 c5 xs hown (by omega)).mono ?_;rintro e w1 ⟨rfl,ho1,hu1⟩;have ho1':w1.ownsRow w.heap.size 3 1 (.slice A5 (ZV xs).length c5) (ZV xs).length ((ZV xs).map (Value.int .i64)):=by rw[hsl.out];exact ho1
   have hic:=Ziu w1 w.heap.size A5 c5 (ZV xs) ho1' (by rw[hsl.out];omega);rw[Hk.out,hsl.out]at hic;have Hic:=Qh hic;have hge:=Qh (show∀i,Own (.slice A5 xs.length c5) i→w.heap.size≤i from fun i e=>(hown.lt i e).1);clear hic ho1 ho1' hown
   go_wp2_with fail
   refine(Hic.out).mono ?_;rintro e w2 ⟨rfl,ho2,hu2⟩;go_wp2
   go_ret
   exact⟨A5,c5,rfl,ho2,(hu.then_ hu1 fun i e=> .inr (hge.out i e)).then_ hu2 fun i e=> .inr (hge.out i e)⟩
set_option maxRecDepth 100000 in
theorem ZiR (F:Nat→Prop) (w:World) (i0:Int) (dn:Bool) (A:Option Addr) (c:Nat) (l:List HOp) (h:HOps F w A l) (hl:Ze l.length):
  Calls Tryz.prog 116 #[.agg #[.int .i64 i0,.bool dn,.slice A l.length c]] w (Zak w (Z0 l)):=by
 have h1:=h.upd ((Upd.refl No w).alloc (.cells #[.int .i64 i0,.bool dn,.slice A l.length c] 81)) (fun _ _=>id)
 go_enter Tryz.func116,Tryz.ntmps116
 go_wp2_with fail
 refine(ZkM F _ i0 dn A c l h1 hl).mono ?_;rintro e w1 ⟨A1,c1,rfl,ho,hu⟩;go_wp2
 go_ret
 exact⟨A1,c1,rfl,ZJ ho (by simp),((Upd.refl No w).alloc _).trans hu⟩
end
/- Who writes each key. -/
section
open Go.RowKit
structure MapSl (w:World) (base b:Nat) (m:List (Int×Value)) (f:Int→List Int):Prop where
 is:MapIs w b (fun n:Int=>Value.int .i64 n) m
 row:∀key,∃A c,(Zm m key).getD (.slice none 0 0)= .slice A (f key).length c∧w.ownsRow base 3 1 (.slice A (f key).length c) (f key).length ((f key).map (Value.int .i64))
 apart:∀k1 k2,k1≠k2→∀i,Own ((Zm m k1).getD (.slice none 0 0)) i→¬Own ((Zm m k2).getD (.slice none 0 0)) i
theorem MapSl.upd {S:Nat→Prop} {w w':World} {base b:Nat} {m:List (Int×Value)} {f:Int→List Int} (h:MapSl w base b m f) (k:Upd S w w') (hb:¬S b) (hS:∀i,base≤i→i<w.heap.size→¬S i):MapSl w' base b m f:=by
 refine⟨h.is.upd k hb,fun key=> ?_,h.apart⟩;obtain⟨A,c,h1,h2⟩:=h.row key;exact⟨A,c,h1,Zb h2 k fun i hi=>by have:=h2.lt i hi;exact hS i this.1 this.2⟩
theorem MapSl.new {w:World} {base b:Nat} (h:MapIs w b (fun n:Int=>Value.int .i64 n) []):MapSl w base b [] fun _=>[]:=
 ⟨h,fun _=>⟨none,0,rfl,World.ownsRow_nil _ _ _ _⟩,fun _ _ _ i hi=>by simp[ZaR,Own,Value.ownBlock]at hi⟩
theorem MapSl.congr {w:World} {base b:Nat} {m:List (Int×Value)} {f g:Int→List Int} (h:MapSl w base b m f) (hfg:∀key,f key=g key):MapSl w base b m g:=by
 have:f=g:=funext hfg;rw[←this];exact h
theorem MapSl.put {w w1 w2:World} {base b:Nat} {m:List (Int×Value)} {f:Int→List Int} {key x:Int} {A A':Option Addr} {c c':Nat} (h:MapSl w base b m f)
  (hA:(Zm m key).getD (.slice none 0 0)= .slice A (f key).length c) (hb:b<base)
  (hown:w1.ownsRow base 3 1 (.slice A' ((f key).length+1) c') ((f key).length+1) ((f key++[x]).map (Value.int .i64)))
  (hu1:Upd (Own (.slice A (f key).length c)) w w1) (hg:∀i,Own (.slice A' ((f key).length+1) c') i→Own (.slice A (f key).length c) i∨w.heap.size≤i)
  (hm2:MapIs w2 b (fun n:Int=>Value.int .i64 n) (Zt m key (.slice A' ((f key).length+1) c'))) (hu2:Upd (One b) w1 w2):
  MapSl w2 base b (Zt m key (.slice A' ((f key).length+1) c')) (fun k=>if k=key then f key++[x] else f k):=by
 have hB:∀i,base≤i→¬One b i:=fun i hi e=>by cases e;omega
 refine⟨hm2,fun k=> ?_,fun k1 k2 hne i hi hi2=> ?_⟩
 ·by_cases hk:k=key
  ·subst hk;simp only[if_true];refine⟨A',c',by rw[Zz];simp,?_⟩;have:=Zb hown hu2 fun i hi=>hB i (hown.lt i hi).1
   simpa using this
  ·simp only[if_neg hk];obtain⟨B,d,h1,h2⟩:=h.row k;refine⟨B,d,by rw[Zv _ _ hk];exact h1,Zb (Zb h2 hu1 fun i hi e=> ?_) hu2 fun i hi=>hB i (h2.lt i hi).1⟩;exact h.apart k key hk i (by rw[h1];exact hi) (by rw[hA];exact e)
 ·by_cases e1:k1=key
  ·subst e1;have hne2:k2≠k1:=fun e=>hne e.symm
   rw[Zz]at hi;rw[Zv _ _ hne2]at hi2;rcases hg i hi with hi|hi
   ·exact h.apart k1 k2 hne i (by rw[hA];exact hi) hi2
   ·obtain⟨B,d,h1,h2⟩:=h.row k2;rw[h1]at hi2;have:=(h2.lt i hi2).2;omega
  ·rw[Zv _ _ e1]at hi
   by_cases e2:k2=key
   ·subst e2;rw[Zz]at hi2;rcases hg i hi2 with hi2|hi2
    ·exact h.apart k1 k2 hne i hi (by rw[hA];exact hi2)
    ·obtain⟨B,d,h1,h2⟩:=h.row k1;rw[h1]at hi;have:=(h2.lt i hi).2;omega
   ·rw[Zv _ _ e2]at hi2;exact h.apart k1 k2 hne i hi hi2
def Apart (m:List (Int×Value)) (g:Nat) (v:Value):Prop:=∀key i,Own ((Zm m key).getD (.slice none 0 0)) i→i≠g∧¬Own v i
theorem Apart.put {m:List (Int×Value)} {g z:Nat} {v old new:Value} {key:Int} (h:Apart m g v) (ho:(Zm m key).getD (.slice none 0 0)=old) (hn:∀i,Own new i→Own old i∨z≤i) (hg:g<z) (hv:∀i,Own v i→i<z):Apart (Zt m key new) g v:=fun k i hi=>by
 by_cases e:k=key
 ·subst e;rw[Zz]at hi;rcases hn i hi with h1|h1
  ·exact h k i (by rw[ho];exact h1)
  ·exact⟨by omega,fun h2=>by have:=hv i h2;omega⟩
 ·rw[Zv _ _ e]at hi;exact h k i hi
end
/- What the document tells of histories,in plain words;it is what the program tells. -/
section
open Go.RowKit
def Zgu (a b:List Int):Bool:=a.length==b.length&&a.all fun x=>a.count x==b.count x
theorem ZcD:∀(a b:List Int),a.length=b.length→(∀x∈a,a.count x=b.count x)→a.Perm b
 |[],b,hl,_=>by
  have:b=[]:=List.eq_nil_of_length_eq_zero (by simpa using hl.symm);subst this;exact List.Perm.refl _
 |x::a,b,hl,h=>by
  have hx:=h x (List.mem_cons_self ..)
  have hxb:x∈b:=by
   rw[List.count_cons_self]at hx;exact List.count_pos_iff.1 (by omega)
  have hp:=List.perm_cons_erase hxb;refine((ZcD a (b.erase x) ?_ fun y hy=> ?_).cons x).trans hp.symm
  ·have:=hp.length_eq;simp only[List.length_cons]at*;omega
  ·have h1:=h y (List.mem_cons_of_mem _ hy);rw[hp.count_eq]at h1;simp only[List.count_cons]at h1;omega
theorem Ze7 (a b:List Int):Zgu a b=(Zav a==Zav b):=by
 rw[Bool.eq_iff_iff];unfold Zgu;simp only[Bool.and_eq_true,beq_iff_eq,List.all_eq_true]
 constructor
 ·rintro⟨h1,h2⟩;have hp:=ZcD a b h1 h2;exact Zbd (((ZC a).trans hp).trans (ZC b).symm) (Zax a) (Zax b)
 ·intro h;have hp:a.Perm b:=((ZC a).symm.trans (by rw[h];exact ZC b));exact⟨hp.length_eq,fun x _=>hp.count_eq x⟩
/-! keys -/
theorem Zcm {l:List Int} (h:l.Pairwise (·<·)):l.Nodup:=h.imp fun h=>Int.ne_of_lt h
theorem ZbW (l:List HOp) (key:Int):key∈Z0 l↔0<Zg l key:=by
 unfold Z0 Zg wrN ZQ;rw[Zip,List.take_length,List.mem_map,List.length_pos_iff,Ne,List.filter_eq_nil_iff];unfold isW
 constructor
 ·rintro⟨o,ho,rfl⟩ hn;rw[List.mem_filter]at ho;exact hn o ho.1 (by rw[ho.2];simp)
 ·intro h
  apply Classical.byContradiction
  intro hn;refine h fun o ho hw=>hn ⟨o,?_,?_⟩
  ·rw[List.mem_filter];grind
  ·grind
theorem ZjH (txs:List HTx) (v:Ver):Zcy txs v=Za7 txs v:=rfl
theorem Zgz (id:Int) (o:HOp):Zaj id o=ZaD id o:=by
 unfold Zaj ZaD ZI
 cases h:o.read<;>simp
theorem ZdH (id:Int) (l:List HOp):∀k,k≤l.length→Zw id (ZF id l k) (l.drop k)=Zw id [] l
 |0,_=>rfl
 |k+1,hk=>by
  rw[←ZdH id l k (by omega),List.drop_eq_getElem_cons (show k<l.length by omega),Zb3,Zgz]
  congr 1
  show(match l[k]? with|some o=>_|none=>_)=_
  rw[Qg (show k<l.length by omega)]
theorem ZcO (id:Int) (l:List HOp):Zw id [] l=Zai id l:=by
 rw[←ZdH id l l.length (Nat.le_refl _),List.drop_length];rfl
/-! is a history right,by the document -/
theorem Zf6 {l:List Int} (h:∀i,i+1<l.length→l.getD i 0<l.getD (i+1) 0):l.Pairwise (·<·):=by
 have key:∀d i:Nat,i+d+1<l.length→l.getD i 0<l.getD (i+d+1) 0:=by
  intro d
  induction d with
  |zero=>intro i hi;exact h i hi
  |succ d ih=>
   intro i hi;have h1:=ih i (by omega);have h2:=h (i+d+1) (by omega);exact Int.lt_trans h1 h2
 rw[List.pairwise_iff_getElem];intro i j hi hj hij;have:=key (j-i-1) i (by omega);rw[show i+(j-i-1)+1=j by omega]at this
 simpa[List.getD_eq_getElem?_getD,Qg hi,Qg hj]using this
theorem Ze9 {txs:List HTx} {ords:List HOrd} {i:Nat} (hi:i<ords.length):ZeF txs ords i=true↔(∀j,j+1=i→(ords.map (·.key)).getD j 0<ords[i].key)∧ords[i].txs≠[]∧Zgu ords[i].txs (Zn txs ords[i].key)=true:=by
 unfold ZeF;rw[Qg hi,Ze7]
 cases i with
 |zero=>simp
 |succ j=>
  have hj:j<ords.length:=by omega
  simp only[Qg hj];simp[List.getD_eq_getElem?_getD,Qg hj]
  grind
end
/- Edges,reads and witnesses by the document,in plain words;for right histories they are what the program tells. -/
section
open Go.RowKit
section
variable {h:Hist}
theorem Zdu (hr:ZP h=true) {i:Nat} (hi:i<h.txs.length):Zgo h.txs i=true:=by
 unfold ZP at hr;simp only[Bool.and_eq_true,List.all_eq_true,List.mem_range]at hr;exact hr.1.1.2 i hi
theorem Zdv (hr:ZP h=true):(h.txs.map (·.id)).Pairwise (·<·):=Zf6 fun j hj=>by
 rw[List.length_map]at hj;have:=Zdu hr hj;unfold Zgo at this;rw[Qg hj]at this;simp only[Bool.and_eq_true]at this;have h1:=this.1.1;simp only[Qg (show j<h.txs.length by omega),decide_eq_true_eq]at h1;rw[List.getD_eq_getElem?_getD,List.getD_eq_getElem?_getD,List.getElem?_map,List.getElem?_map,Qg hj,Qg (show j<h.txs.length by omega)];exact h1
theorem Zgr (hr:ZP h=true) {t:HTx} (ht:t∈h.txs):Za h.txs t.id=some t:=by
 obtain⟨k,hk,rfl⟩:=List.mem_iff_getElem.1 ht;have hp:=List.pairwise_iff_getElem.1 (Zdv hr);refine ZdO hk (fun j hj=> ?_) (by simp);have:=hp j k (by simp;omega) (by simpa using hk) hj;simp only[List.getElem_map]at this;rw[beq_eq_false_iff_ne];omega
theorem ZfL (hr:ZP h=true) {t:HTx} (ht:t∈h.txs):Zp t.id t.ops=0∧Zgb h.txs t.id t.ops=true:=by
 obtain⟨k,hk,rfl⟩:=List.mem_iff_getElem.1 ht;have:=Zdu hr hk;unfold Zgo at this;rw[Qg hk]at this;simp only[Bool.and_eq_true,beq_iff_eq]at this;exact⟨this.1.2,this.2⟩
theorem Zh9 (hr:ZP h=true) {t:HTx} (ht:t∈h.txs):1≤t.id:=by
 have:=(ZfL hr ht).1;unfold Zp at this
 split at this
 ·cases this
 ·rename_i hid
  unfold idB at hid;simp at hid;exact hid.1
end
/-! how often there is a reason for an edge -/
def p2 (f key:Int) (n:Nat) (o:HOp):Bool:=o.read&&o.key==key&&o.tx==f&&o.nth==(n:Int)
def p3 (h:Hist) (id key t:Int) (o:HOp):Bool:=o.read&&o.key==key&& !(o.tx==id)&&ZgE h.txs ⟨o.tx,o.key,o.nth⟩&&Zgx h.ords key o.tx t
/-! bad reads -/
/-! witnesses -/
end
/- Right histories:the document's own steps come to what the program tells. -/
section
open Go.RowKit
theorem ZgZ (key:Int):∀(l:List HTx) (acc:List Int),wrS key acc l=acc++Zn l key
 |[],acc=>by simp[wrS,Zn]
 |t::l,acc=>by
  rw[ZeN,ZgZ key l]
  have hc:(Z0 t.ops).contains key=decide (0<Zg t.ops key):=by
   rw[List.contains_eq_mem]
   congr 1
   simp only[ZbW]
  unfold Zn;rw[List.filter_cons];simp only[hc]
  split<;>simp
theorem ZkD (key:Int) (l:List HTx):wrS key [] l=Zn l key:=by rw[ZgZ];simp
end
/- The document:the reads that may not be. -/
section
open Go.RowKit
def Bads (F:Nat→Prop) (w:World) (A:Option Addr) (l:List HBad):Prop:=Recs F w A 5 (l.map HBad.cells)
theorem Bads.at_ {F:Nat→Prop} {w:World} {A:Option Addr} {l:List HBad} (h:Bads F w A l) {k:Nat} (hk:k<l.length):∃ad,A=some ad∧
  w.cell? (ad.add (k*5))=some (.int .i64 l[k].tx)∧w.cell? ⟨(ad.add (k*5)).block,(ad.add (k*5)).off+1,none⟩=some (.int .i64 l[k].place)∧
  w.cell? ⟨(ad.add (k*5)).block,(ad.add (k*5)).off+2,none⟩=some (.int .i64 l[k].of.tx)∧w.cell? ⟨(ad.add (k*5)).block,(ad.add (k*5)).off+3,none⟩=some (.int .i64 l[k].of.key)∧
  w.cell? ⟨(ad.add (k*5)).block,(ad.add (k*5)).off+4,none⟩=some (.int .i64 l[k].of.nth):=by
 have hk':k<(l.map HBad.cells).length:=by simpa using hk
 obtain⟨ad,e,_,_,hc⟩:=Recs.at_ h hk';rw[List.getElem_map]at hc;exact⟨ad,e,by simpa using hc 0 _ rfl,by simpa using hc 1 _ rfl,by simpa using hc 2 _ rfl,by simpa using hc 3 _ rfl,by simpa using hc 4 _ rfl⟩
theorem Bads.upd {F S:Nat→Prop} {w w':World} {A:Option Addr} {l:List HBad} (h:Bads F w A l) (k:Upd S w w') (hn:∀i,F i→¬S i):Bads F w' A l:=Recs.upd h k hn
end
/- Orders:the first order that goes along all edges,in plain words;what is kept while ids are taken one by one. -/
section
open Go.RowKit
def ZgM (l:List Edge) (left:List Int) (x:Int):Bool:=l.all fun e=> !(decide (e.t=x)&&decide (e.f∈left))
def Zdm (l:List Edge) (L:List Int) (x:Int):Nat:=(l.filter fun e=>decide (e.t=x)&&decide (e.f∈L)).length
theorem Zfv (l:List Edge) (L:List Int) (x:Int):ZgM l L x=(Zdm l L x==0):=by
 rw[Bool.eq_iff_iff];unfold ZgM Zdm;simp only[List.all_eq_true,beq_iff_eq,List.length_eq_zero_iff,List.filter_eq_nil_iff]
 grind
structure TpI (l:List Edge) (ids L nx ys:List Int) (g:Int→Int):Prop where
 rise:L.Pairwise (·<·)
 sub:∀x∈L,x∈ids
 cnt:∀x∈ids,g x=1+((Zdm l L x+nx.count x:Nat):Int)
 heap:ys.Perm (L.filter fun x=>Zdm l L x+nx.count x==0)
 gone:∀x∈ids,x∉L→Zdm l L x+nx.count x=0
 nxs:∀x∈nx,x∈ids
theorem TpI.mem {l:List Edge} {ids L nx ys:List Int} {g:Int→Int} (h:TpI l ids L nx ys g) (x:Int):x∈ys↔x∈L∧Zdm l L x+nx.count x=0:=by
 rw[h.heap.mem_iff,List.mem_filter,beq_iff_eq]
theorem TpI.nodup {l:List Edge} {ids L nx ys:List Int} {g:Int→Int} (h:TpI l ids L nx ys g):ys.Nodup:=h.heap.nodup_iff.2 ((Zcm h.rise).filter _)
theorem TpI.step {l:List Edge} {ids L nx ys:List Int} {x:Int} {g:Int→Int} (h:TpI l ids L (x::nx) ys g):
  TpI l ids L nx (if g x-1=1 then ys++[x] else ys) (fun y=>if y=x then g x-1 else g y):=by
 have hx:=h.nxs x (List.mem_cons_self ..);have hgx:=h.cnt x hx;rw[List.count_cons_self]at hgx
 have hxL:x∈L:=Classical.byContradiction fun hn=>by
  have:=h.gone x hx hn;rw[List.count_cons_self]at this;omega
 have hco:∀y,y≠x→(x::nx).count y=nx.count y:=fun y hy=>List.count_cons_of_ne (Ne.symm hy)
 have hxn:x∉ys:=fun hm=>by
  have:=((h.mem x).1 hm).2;rw[List.count_cons_self]at this;omega
 refine⟨h.rise,h.sub,fun y hy=> ?_,?_,fun y hy hn=> ?_,fun y hy=>h.nxs y (List.mem_cons_of_mem _ hy)⟩
 ·by_cases e:y=x
  ·subst e;rw[if_pos rfl];omega
  ·rw[if_neg e,h.cnt y hy,hco y e]
 ·have hnd:(L.filter fun y=>Zdm l L y+nx.count y==0).Nodup:=(Zcm h.rise).filter _
  split
  ·rename_i he
   refine(List.perm_ext_iff_of_nodup ?_ hnd).2 fun y=> ?_
   ·rw[List.nodup_append];exact⟨h.nodup,by simp,fun a ha b hb=>by rw[List.mem_singleton]at hb;subst hb;exact fun e=>hxn (e▸ha)⟩
   ·rw[List.mem_append,List.mem_singleton,h.mem,List.mem_filter,beq_iff_eq]
    by_cases e:y=x
    ·subst e
     constructor
     ·intro _;exact⟨hxL,by omega⟩
     ·intro _;exact Or.inr rfl
    ·rw[hco y e];simp[e]
  ·rename_i he
   refine(List.perm_ext_iff_of_nodup h.nodup hnd).2 fun y=> ?_
   rw[h.mem,List.mem_filter,beq_iff_eq]
   by_cases e:y=x
   ·subst e;rw[List.count_cons_self]
    constructor
    ·rintro⟨_,h2⟩;omega
    ·rintro⟨_,h2⟩;omega
   ·rw[hco y e]
 ·have:=h.gone y hy hn
  by_cases e:y=x
  ·subst e;exact absurd hxL hn
  ·rw[hco y e]at this;exact this
theorem ZgC {L:List Int} {p:Int→Bool} {m:Int} (hr:L.Pairwise (·<·)) (hm:m∈L) (hp:p m=true) (hl:∀y∈L,p y=true→m≤y):L.find? p=some m:=by
 cases hf:L.find? p with
 |none=>rw[List.find?_eq_none]at hf;exact absurd hp (hf m hm)
 |some x=>
  have hx:=List.find?_some hf;have hxm:=List.mem_of_find?_eq_some hf;have h1:=hl x hxm hx;rw[List.find?_eq_some_iff_append]at hf;obtain⟨_,l1,l2,rfl,hl1⟩:=hf;rcases List.mem_append.1 hm with h2|h2
  ·have:=hl1 m h2;rw[hp]at this;simp at this
  ·rcases List.mem_cons.1 h2 with rfl|h2
   ·rfl
   ·have:=(List.pairwise_cons.1 (List.pairwise_append.1 hr).2.1).1 m h2;omega
theorem TpI.find {l:List Edge} {ids L ys:List Int} {g:Int→Int} (h:TpI l ids L [] ys g) {m:Int} (hm:m∈ys) (hl:∀y∈ys,m≤y):L.find? (ZgM l L)=some m:=by
 have h1:=(h.mem m).1 hm;refine ZgC h.rise h1.1 (by rw[Zfv];simpa using h1.2) fun y hy hp=>hl y ((h.mem y).2 ⟨hy,by rw[Zfv]at hp;simpa using hp⟩)
end
/- Looking at a history:the exported functions,with their values named. -/
section
open Go.RowKit
section
variable {F G:Nat→Prop} {w:World} {txs:List HTx} {ords:List HOrd} {A B:Option Addr} {c d n1 n2:Nat}
end
def Zck (n:Nat):Hist:=
 ⟨[⟨1,true,[⟨true,1,0,0⟩,⟨false,2,0,0⟩],some ⟨n+1,0,none⟩,2⟩,⟨2,true,[⟨true,2,0,0⟩,⟨false,1,0,0⟩],some ⟨n+1+1,0,none⟩,2⟩],
  [⟨1,[2],some ⟨n+1+1+1+1,0,none⟩,1⟩,⟨2,[1],some ⟨n+1+1+1+1+1,0,none⟩,1⟩],some ⟨n+1+1+1,0,none⟩,2,some ⟨n+1+1+1+1+1+1,0,none⟩,2⟩
def e1:Edge:=⟨1,2,3,1⟩
def e2:Edge:=⟨2,1,3,2⟩
section
variable (n:Nat)
theorem a1:Zci (Zck n) 5 [e1,e2] ZdG=true:=by kernel_rfl
theorem a2:Zci (Zck n) 5 [e1,e2,e1,e2] ZdG=true:=by kernel_rfl
theorem a3:Zci (Zck n) 4 [e1,e2] ZdG=false:=by kernel_rfl
theorem a4:Zci (Zck n) 5 [e1] ZdG=false:=by kernel_rfl
theorem a5:Zci (Zck n) 5 [e1,e2] ⟨2,0,⟨1,5,1⟩⟩=false:=by kernel_rfl
theorem a9:(ZP (Zck n)&&ZiY (Zck n) ⟨1,2,3,2⟩)=false:=by kernel_rfl
end
end
end Go.Proofs.YtblplapkdmhikaaGreat
