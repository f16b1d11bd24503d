/- The kinds of a phenomenon; who is next in an order. -/
import Derived.Shelf.SlicesG.Turned
import Derived.Ground.SlgnProg
import Derived.Shelf.SlGeneric
import Derived.Test.YtonblekdfinpkaaGreatProg
import Derived.Shelf.SlicesG.CompactI
import Derived.Test.YtonblekdfinpkaaGreatWtac
import Derived.Test.YtonblekdfinpkaaGreatWtau
import Derived.Test.YtonblekdfinpkaaGreatWtax
import Derived.Test.YtonblekdfinpkaaGreatWtay
namespace Go.Proofs.YtonblekdfinpkaaGreat
set_option linter.unusedVariables false
set_option linter.unusedSimpArgs false
section
open Go.RowKit
def Zal (p:Int):Int:=if p=1 then 2 else if p=4 then 6 else if p=5 then 14 else 0
def ZaJ (p:Int):Int:=if p=5 then 8 else 0
theorem Zk8 (w:World) (p:Int):Calls Tryz.prog 23 #[.int .i64 p] w fun e w'=>e= .returned (.tuple #[.int .i64 (Zal p),.int .i64 (ZaJ p)])∧w=w':=by
 by_cases h1:p=1
 ·subst h1
  go_enter Tryz.func23,Tryz.ntmps23
  go_wp2
  go_ret2
  exact⟨rfl,rfl⟩
 ·by_cases h4:p=4
  ·subst h4
   go_enter Tryz.func23,Tryz.ntmps23
   go_wp2
   go_ret2
   exact⟨rfl,rfl⟩
  ·by_cases h5:p=5
   ·subst h5
    go_enter Tryz.func23,Tryz.ntmps23
    go_wp2
    go_ret2
    exact⟨rfl,rfl⟩
   ·have b1:(p==1)=false:=by simpa using h1
    have b4:(p==4)=false:=by simpa using h4
    have b5:(p==5)=false:=by simpa using h5
    have hm:=Qh (show Zal p=0 by unfold Zal;rw[if_neg h1,if_neg h4,if_neg h5]);have hu:=Qh (show ZaJ p=0 by unfold ZaJ;rw[if_neg h5]);clear h1 h4 h5
    go_enter Tryz.func23,Tryz.ntmps23
    go_wp2
    go_ret2
    exact⟨by rw[hm.out,hu.out];rfl,rfl⟩
def Zq (l:List Int) (x:Int):Nat:=l.findIdx (·==x)
def Zkx (l:List Int) (tx:Int):Option Int:=if tx=0 then l[0]? else if Zq l tx<l.length then l[Zq l tx+1]? else none
end
/- The order of a key. -/
section
open Go.RowKit
theorem ZmQ (w:World) (o:HOp):Calls Tryz.prog 157 #[.agg o.cells.toArray] w fun e w'=>e= .returned (.bool (!o.read))∧Upd No w w':=by
 unfold HOp.cells
 go_enter Tryz.func157,Tryz.ntmps157
 go_wp2
 go_ret
 exact⟨rfl,(Upd.refl _ _).alloc _⟩
def Zi1 (l:List HOrd) (key:Int):Nat:=l.findIdx fun o=>o.key==key
theorem Zqs {l:List HOrd} {key:Int} {k:Nat} (hk:k<l.length) (h:∀(j:Nat) (hj:j<k),((l[j]'(by omega)).key==key)=false) (h1:(l[k].key==key)=true):Zi1 l key=k:=by
 unfold Zi1;rw[List.findIdx_eq hk];exact⟨h1,fun j hj=>by simp only[h j hj]⟩
def Ze3 (l:List HOrd) (key:Int):List Int:=match l[Zi1 l key]? with|some o=>o.txs|none=>[]
end
/- What the program tells of histories,in plain words:needs,keys,writers,right;and of edges,reads and witnesses. -/
section
open Go.RowKit
def ZcA (id:Int) (o:HOp):Bool:=o.read&& !((ZE o).tx==0)&& !((ZE o).tx==id)
def Zaw (id:Int) (l:List HOp):Nat→List Ver
 |0=>[]
 |k+1=>
  match l[k]? with
  |some o=>if ZcA id o&& !(Zaw id l k).contains (ZE o) then Zaw id l k++[ZE o] else Zaw id l k
  |none=>Zaw id l k
def Zie (id:Int) (l:List HOp):List Ver:=Zaw id l l.length
def ZaB (txs:List HTx) (v:Ver):Bool:=
 if v.tx=0∧v.nth=0 then idB v.key
 else match Zv txs v.tx with
  |some t=>decide (1≤v.nth)&&decide (v.nth≤(Z3 t.ops v.key:Int))
  |none=>false
def ZbU (txs:List HTx) (id:Int) (l:List HOp):Bool:=(Zie id l).all (ZaB txs)
def Zbw (l:List HOp) (f:HOp→Bool):List Int:=(l.filter f).map (·.key)
def ZcI (l:List HOp):List Int:=ZP (Zbw l fun o=> !o.read)
def Zew (s:List Int):List Int→List Int
 |[]=>s
 |k::l=>Zew (if k∈s then s else s++[k]) l
def Zaj:List HTx→List Int→List Int
 |[],s=>s
 |t::l,s=>Zaj l (if t.done then Zew s (ZcI t.ops) else s)
def Zu (txs:List HTx) (key:Int):List Int:=(txs.filter fun t=>t.done&&(ZcI t.ops).contains key).map (·.id)
def ZeO (txs:List HTx) (i:Nat):Bool:=
 match txs[i]? with
 |none=>true
 |some t=>(match i with|0=>true|j+1=>(match txs[j]? with|some u=>decide (u.id<t.id)|none=>true))&&ZaH t.id t.ops==0&&ZbU txs t.id t.ops
def Zdt (txs:List HTx) (ords:List HOrd) (i:Nat):Bool:=
 match ords[i]? with
 |none=>true
 |some o=>(match i with|0=>true|j+1=>(match ords[j]? with|some u=>decide (u.key<o.key)|none=>true))&& !o.txs.isEmpty&&(Zbm o.txs==Zbm (Zu txs o.key))
def Zb (h:Hist):Bool:=
 decide (h.txs.length≤4096)&&(List.range h.txs.length).all (ZeO h.txs)&&(Zaj h.txs []).length==h.ords.length&&(List.range h.ords.length).all (Zdt h.txs h.ords)
def ZT (txs:List HTx) (id:Int):Option HTx:=match Zv txs id with|some t=>if t.done then some t else none|none=>none
def Zfv (txs:List HTx) (v:Ver):Bool:=if v.tx=0 then true else match ZT txs v.tx with|some t=>v.nth==(Z3 t.ops v.key:Int)|none=>false
def ZeB (ords:List HOrd) (key x y:Int):Bool:=Zkx (Ze3 ords key) x==some y
def Zh1 (id:Int) (l:List HOp) (key:Int) (counts:Ver→Bool):Bool:=l.any fun o=>o.read&&o.key==key&& !(o.tx==id)&&counts (ZE o)
def Zbf (h:Hist) (e:Edge):Bool:=
 match ZT h.txs e.f,ZT h.txs e.t with
 |some a,some b=>
  if e.f=e.t then false
  else if e.k=1 then ZeB h.ords e.key e.f e.t
  else if e.k=2 then Zh1 b.id b.ops e.key fun v=>v.tx==e.f&&Zfv h.txs v
  else if e.k=3 then Zh1 a.id a.ops e.key fun v=>Zfv h.txs v&&ZeB h.ords e.key v.tx e.t
  else false
 |_,_=>false
structure HBad where
 tx:Int
 place:Int
 of:Ver
deriving DecidableEq
def HBad.cells (b:HBad):List Value:=[.int .i64 b.tx,.int .i64 b.place,.int .i64 b.of.tx,.int .i64 b.of.key,.int .i64 b.of.nth]
def ZlZ (txs:List HTx) (p:Int) (b:HBad):Bool:=
 match ZT txs b.tx with
 |none=>false
 |some t=>
  if b.place<0 then false
  else match t.ops[b.place.toNat]? with
   |none=>false
   |some o=>
    if !o.read|| !(ZE o==b.of)||o.tx==0||o.tx==t.id then false
    else if p=2 then (match Zv txs o.tx with|some u=> !u.done|none=>true)
    else if p=3 then decide (o.nth<(Z3 (match Zv txs o.tx with|some u=>u.ops|none=>[]) o.key:Int))
    else false
def Zdk (m p:Int):Bool:=(bits .andNot .i64 m (Zal p)==0)&&(ZaJ p==0|| !(bits .and .i64 m (ZaJ p)==0))
def Zcr:HBad:=⟨0,0,⟨0,0,0⟩⟩
def ZbX (h:Hist) (p:Int) (l:List Edge) (b:HBad):Bool:=
 Zb h&&(if p=2∨p=3 then decide (l.length=0)&&ZlZ h.txs p b
  else !(Zal p==0)&&b==Zcr&&Zae l&&Zdk (Zba l) p&&l.all (Zbf h))
/-! from any place -/
end
/- The keys that a transaction writes. -/
section
open Go.RowKit
theorem Zhs (w:World) (base:Nat) (A:Option Addr) (c:Nat) (l:List Int) (hown:w.ownsRow base 3 1 (.slice A l.length c) l.length (l.map (Value.int .i64))) (hl:l.length≤17592186044415):
  Calls Tryz.prog 208 #[.slice A l.length c] w fun e w'=>e= .returned (.slice A (Lib.compact l).length c)∧w'.ownsRow base 3 1 (.slice A (Lib.compact l).length c) (Lib.compact l).length ((Lib.compact l).map (Value.int .i64))∧Upd (Own (.slice A l.length c)) w w':=by
 rcases hown.2 with ⟨hv,hn⟩|⟨g,cap,cur,hv,hbg,hg,hnc,hcm,hcs,htake⟩
 ·have hl0:l=[]:=List.eq_nil_of_length_eq_zero hn;subst hl0;refine Calls.mono (AnyG.slices_Compact_int_empty Zgi A c w) ?_;rintro e w' ⟨rfl,rfl⟩;exact⟨rfl,hown,Upd.refl _ _⟩
 ·cases hv
  have hb:Blk w g 3 cur.toList:=by unfold Blk;rw[Array.toArray_toList];exact hg
  have hcs':cur.size=c:=by simpa using hcs
  have htake':cur.toList.take l.length=l.map (Value.int .i64):=by simpa using htake
  have hH:Sort.Holds (Value.int .i64) w g 0 l.toArray:=fun j hj=>by
   simp only[List.size_toArray]at hj;rw[Nat.zero_add];refine⟨?_,hb.free j⟩;rw[hb.cell j];have h1:(cur.toList.take l.length)[j]? =cur.toList[j]? :=by rw[List.getElem?_take,if_pos hj]
   rw[←h1,htake',List.getElem?_map,Qg hj];simp[hj]
  have hlt:=hb.lt;have hcl:(Lib.compact l).length≤l.length:=by rw[ZiK];exact Zjg _ _
  refine Calls.mono (AnyG.slices_Compact_int Zgi g 0 c l w hH (by omega) hnc) ?_;rintro e w' ⟨rfl,q,rfl⟩;obtain⟨R,hR,hRl⟩:∃R:List Int,R=Lib.compact l++List.replicate (l.length-(Lib.compact l).length) 0∧R.length=l.length:=⟨_,rfl,by simp;omega⟩
  have e1:(Sort.putRow (Value.int .i64) (Sort.ahead w q) g 0 (Lib.compact l++List.replicate (l.length-(Lib.compact l).length) 0).toArray).heap[g]? =some (.cells (Sort.putCells (Value.int .i64) 0 R.toArray cur) 3 (0,0)):=by
   unfold Sort.putRow Sort.mapBlock;simp only;rw[Array.getElem?_modify];simp only[if_true];rw[show(Sort.ahead w q).heap=w.heap from rfl,hg,hR];rfl
  rw[ZjA _ _ (by simp only[List.size_toArray];omega)]at e1;refine⟨rfl,⟨by simp,.inr ⟨g,c,_,rfl,hbg,e1,by omega,hcm,?_,?_⟩⟩,⟨rfl,rfl,rfl,?_,fun k hk hn=> ?_⟩⟩
  ·simp only[List.size_toArray,List.length_append,List.length_map,List.length_drop,Array.length_toList,hRl];omega
  ·rw[Nat.mul_one]
   show List.take _ (List.map (Value.int .i64) R++_)=_
   rw[hR,List.map_append,List.append_assoc,List.take_append_of_le_length (by simp),List.take_of_length_le (by simp)]
  ·unfold Sort.putRow Sort.mapBlock;simp only[Array.size_modify];exact Nat.le_refl _
  ·have hne:g≠k:=fun e=>hn (by unfold Own;rw[e];rfl)
   unfold Sort.putRow Sort.mapBlock;simp only;rw[Array.getElem?_modify,if_neg hne];rfl
theorem ZnH {l:List HOp} {k:Nat} {x:HOp} (hk:k<l.length) (hx:l[k]=x) (hr:x.read=false):Zbw (l.take (k+1)) (fun o=> !o.read)=Zbw (l.take k) (fun o=> !o.read)++[x.key]:=by
 subst hx;unfold Zbw;rw[List.take_succ_eq_append_getElem hk,List.filter_append,List.map_append,List.filter_cons_of_pos (by rw[hr];rfl)];rfl
theorem Zpl {l:List HOp} {k:Nat} {x:HOp} (hk:k<l.length) (hx:l[k]=x) (hr:x.read=true):Zbw (l.take (k+1)) (fun o=> !o.read)=Zbw (l.take k) (fun o=> !o.read):=by
 subst hx;unfold Zbw;rw[List.take_succ_eq_append_getElem hk,List.filter_append,List.map_append,List.filter_cons_of_neg (by rw[hr];decide)];simp
theorem Zpm (l:List HOp) (f:HOp→Bool):(Zbw l f).length≤l.length:=by
 unfold Zbw;rw[List.length_map];exact List.length_filter_le _ _
set_option maxRecDepth 100000 in
set_option maxHeartbeats 1000000 in
theorem ZuE (F:Nat→Prop) (w:World) (i0:Int) (dn:Bool) (A:Option Addr) (c:Nat) (l:List HOp) (h:HOps F w A l) (hl:ZD l.length):
  Calls Tryz.prog 156 #[.agg #[.int .i64 i0,.bool dn,.slice A l.length c],.func (.func 157) #[] #[]] w (Zdd w (ZcI l)):=by
 unfold ZD at hl
 go_enter Tryz.func156,Tryz.ntmps156
 go_wp2
 go_loopg [5,11] l.length (fun gk s i wr=>∃(k:Nat) (A5:Option Addr) (c5:Nat) (xs:List Int),k+gk=l.length∧i= .int .i64 k∧s= .slice A5 xs.length c5∧Hid (xs=Zbw (l.take k) fun o=> !o.read)∧xs.length≤k∧
  wr.ownsRow w.heap.size 3 1 (.slice A5 xs.length c5) xs.length (xs.map (Value.int .i64))∧Upd No w wr)
 case atStart=>exact⟨0,none,0,[],by omega,rfl,rfl,Qh (by simp[Zbw]),by simp,World.ownsRow_nil _ _ _ _,(Upd.refl _ _).alloc _⟩
 case round=>
  obtain⟨k,A5,c5,xs,hgk,rfl,rfl,hxs,hxl,hown,hu⟩:=hrel
  by_cases hlt:k<l.length
  ·obtain⟨ad,hAd,q0,q1,q2,q3⟩:=(h.upd hu (fun _ _=>id)).at_ hlt;obtain⟨x,hx⟩:∃x,l[k]=x:=⟨_,rfl⟩;rw[hx]at q0 q1 q2 q3;subst hAd;have X:=Qh hx;clear hx;have b1:(0:Int)≤(k:Int):=Qn _;have b2:(k:Int)<(l.length:Int):=by omega
   have uA:=(Upd.refl No wr).alloc (.cells #[.bool x.read,.int .i64 x.key,.int .i64 x.tx,.int .i64 x.nth] 82);have bo:=Blk.new wr 82 [.bool x.read,.int .i64 x.key,.int .i64 x.tx,.int .i64 x.nth];have hown1:=Za hown uA (fun _ _=>id)
   cases hr:x.read
   ·rw[hr]at q0 uA bo hown1;have HS:=Qh (ZnH hlt X.out hr);have Hr:=Qh hr;clear hr
    go_wp2_with fail
    refine(ZmQ _ ⟨false,x.key,x.tx,x.nth⟩).mono ?_;rintro e w1 ⟨rfl,hu1⟩;have bo1:=bo.upd hu1 id;have g1:=bo1.cell 1;simp only[Qz,Qs]at g1;have hown2:=Za hown1 hu1 (fun _ _=>id);have hz1:=(uA.trans hu1).size;have hz0:=hu.size;have Hu1:=Qh ((hu.trans uA).trans hu1);clear hown1 uA hu1
    go_wp2_with (at_builtin;refine ZbQ rfl rfl Zbs (v:= .slice A5 xs.length c5) (cells:=[.int .i64 x.key]) (by rfl) rfl hown2 rfl rfl (by omega) (by omega) (by omega) ?_;intro g' c' w2 hown3 hu3 hg3 hlt3)
    go_roundg (gk-1)
    case measure=>omega
    case rel=>
     refine⟨k+1,some ⟨g',0,none⟩,c',xs++[x.key],by omega,by go_num,by simp,Qh (by rw[HS.out,hxs.out]),by simp;omega,by simpa using hown3,Hu1.out.then_ hu3 fun i e=> ?_⟩;exact .inr (hown2.lt i e).1
   ·rw[hr]at q0 uA bo hown1;have HS:=Qh (Zpl hlt X.out hr);have Hr:=Qh hr;clear hr
    go_wp2_with fail
    refine(ZmQ _ ⟨true,x.key,x.tx,x.nth⟩).mono ?_;rintro e w1 ⟨rfl,hu1⟩;have Hu1:=Qh ((hu.trans uA).trans hu1);have hown2:=Za hown1 hu1 (fun _ _=>id);clear hown1 uA hu1;go_wp2
    go_roundg (gk-1)
    case measure=>omega
    case rel=>exact⟨k+1,A5,c5,xs,by omega,by go_num,rfl,Qh (by rw[HS.out,hxs.out]),by omega,hown2,Hu1.out⟩
  ·obtain rfl:k=l.length:=by omega
   have Hx:=Qh (show xs=Zbw l fun o=> !o.read by rw[hxs.out,List.take_length]);clear hxs;have hsl:=Qh (Zbz xs);have Hk:=Qh (show Lib.compact (Z6 xs)=ZcI l by rw[Zc6,Hx.out];rfl)
   go_wp2_with fail
   refine(Zit _ _ A5 c5 xs hown (by omega)).mono ?_;rintro e w1 ⟨rfl,ho1,hu1⟩;have ho1':w1.ownsRow w.heap.size 3 1 (.slice A5 (Z6 xs).length c5) (Z6 xs).length ((Z6 xs).map (Value.int .i64)):=by rw[hsl.out];exact ho1
   have hic:=Zhs w1 w.heap.size A5 c5 (Z6 xs) ho1' (by rw[hsl.out];omega);rw[Hk.out,hsl.out]at hic;have Hic:=Qh hic;have hge:=Qh (show∀i,Own (.slice A5 xs.length c5) i→w.heap.size≤i from fun i e=>(hown.lt i e).1);clear hic ho1 ho1' hown
   go_wp2_with fail
   refine(Hic.out).mono ?_;rintro e w2 ⟨rfl,ho2,hu2⟩;go_wp2
   go_ret
   exact⟨A5,c5,rfl,ho2,(hu.then_ hu1 fun i e=> .inr (hge.out i e)).then_ hu2 fun i e=> .inr (hge.out i e)⟩
set_option maxRecDepth 100000 in
theorem ZuF (F:Nat→Prop) (w:World) (i0:Int) (dn:Bool) (A:Option Addr) (c:Nat) (l:List HOp) (h:HOps F w A l) (hl:ZD l.length):
  Calls Tryz.prog 77 #[.agg #[.int .i64 i0,.bool dn,.slice A l.length c]] w (Zdd w (ZcI l)):=by
 have h1:=h.upd ((Upd.refl No w).alloc (.cells #[.int .i64 i0,.bool dn,.slice A l.length c] 85)) (fun _ _=>id)
 go_enter Tryz.func77,Tryz.ntmps77
 go_wp2_with fail
 refine(ZuE F _ i0 dn A c l h1 hl).mono ?_;rintro e w1 ⟨A1,c1,rfl,ho,hu⟩;go_wp2
 go_ret
 exact⟨A1,c1,rfl,Zaa ho (by simp),((Upd.refl No w).alloc _).trans hu⟩
end
/- Whether a version is there. -/
section
open Go.RowKit
theorem Zpw {txs:List HTx} {v:Ver} (h1:v.tx=0) (h2:v.nth=0):ZaB txs v=idB v.key:=by unfold ZaB;rw[if_pos ⟨h1,h2⟩]
theorem Zj1 {txs:List HTx} {v:Ver} (h:¬(v.tx=0∧v.nth=0)) (hf:Zv txs v.tx=none):ZaB txs v=false:=by unfold ZaB;rw[if_neg h,hf]
theorem Zj0 {txs:List HTx} {v:Ver} {t:HTx} (h:¬(v.tx=0∧v.nth=0)) (hf:Zv txs v.tx=some t):ZaB txs v=(decide (1≤v.nth)&&decide (v.nth≤(Z3 t.ops v.key:Int))):=by unfold ZaB;rw[if_neg h,hf]
section
variable (F:Nat→Prop) (w:World) (txs:List HTx) (ords:List HOrd) (A:Option Addr) (c:Nat) (B:Option Addr) (d:Nat) (i:Int)
theorem Zh3 (H:Hist.lies F w ⟨txs,ords,A,c,B,d⟩) (hf:Zv txs i=none):Calls Tryz.prog 74 #[.agg #[.slice A txs.length c,.slice B ords.length d],.int .i64 i] w fun e w'=>
  e= .returned (.tuple #[.agg #[.int .i64 0,.bool false,.slice none 0 0],.bool false])∧Upd No w w':=by
 refine(ZrE F w ⟨txs,ords,A,c,B,d⟩ i H).mono ?_;intro e w' h;unfold ZiT at h;rw[show Zv (Hist.txs ⟨txs,ords,A,c,B,d⟩) i=none from hf]at h;exact h
theorem ZdS {t:HTx} (H:Hist.lies F w ⟨txs,ords,A,c,B,d⟩) (hf:Zv txs i=some t):Calls Tryz.prog 74 #[.agg #[.slice A txs.length c,.slice B ords.length d],.int .i64 i] w fun e w'=>
  ∃A' c',e= .returned (.tuple #[.agg #[.int .i64 t.id,.bool t.done,.slice A' t.ops.length c'],.bool true])∧t.ops.length≤c'∧HOps (fun i=>w.heap.size≤i) w' A' t.ops∧Upd No w w':=by
 refine(ZrE F w ⟨txs,ords,A,c,B,d⟩ i H).mono ?_;intro e w' h;unfold ZiT at h;rw[show Zv (Hist.txs ⟨txs,ords,A,c,B,d⟩) i=some t from hf]at h;obtain⟨⟨A',c',h1,h2,h3⟩,h4⟩:=h;exact⟨A',c',h1,h2,h3,h4⟩
end
theorem ZeJ {txs:List HTx} {i:Int} {t:HTx} (h:Zv txs i=some t):t∈txs:=List.mem_of_find?_eq_some h
set_option maxRecDepth 100000 in
set_option maxHeartbeats 1000000 in
theorem Zbk (F:Nat→Prop) (w:World) (h:Hist) (v:Ver) (H:h.lies F w):Calls Tryz.prog 168 #[h.val,.agg v.cells.toArray] w fun e w'=>e= .returned (.bool (ZaB h.txs v))∧Upd No w w':=by
 obtain⟨txs,ords,A,c,B,d⟩:=h;obtain⟨tx,key,nth⟩:=v;unfold Hist.val Ver.cells;have uu:=((Upd.refl No w).alloc (.cells #[.slice A txs.length c,.slice B ords.length d] 50)).alloc (.cells #[.int .i64 tx,.int .i64 key,.int .i64 nth] 36)
 by_cases h1:tx=0
 ·subst h1
  by_cases h2:nth=0
  ·subst h2;have hv:=Qh (Zpw (txs:=txs) (v:=⟨0,key,0⟩) rfl rfl);unfold idB at hv
   by_cases b1:1≤key
   ·by_cases b2:key≤1048575
    ·go_enter Tryz.func168,Tryz.ntmps168
     go_wp2
     go_ret
     exact⟨by rw[hv.out,decide_eq_true b1,decide_eq_true b2];rfl,uu⟩
    ·go_enter Tryz.func168,Tryz.ntmps168
     go_wp2
     go_ret
     exact⟨by rw[hv.out,decide_eq_false (show¬key≤1048575 by omega),Bool.and_false];rfl,uu⟩
   ·go_enter Tryz.func168,Tryz.ntmps168
    go_wp2
    go_ret
    exact⟨by rw[hv.out,decide_eq_false (show¬1≤key by omega),Bool.false_and];rfl,uu⟩
  ·have hne:¬((⟨0,key,nth⟩:Ver).tx=0∧(⟨0,key,nth⟩:Ver).nth=0):=fun e=>h2 e.2
   have h2b:(nth==0)=false:=by simpa using h2
   clear h2;have HH:=Qh (H.upd uu (fun _ _=>id));have b1:=Blk.new (w.alloc (.cells #[.slice A txs.length c,.slice B ords.length d] 50)) 36 [.int .i64 0,.int .i64 key,.int .i64 nth];simp only[World.size_alloc]at b1;have B1:=Qh b1;clear b1
   cases hf:Zv txs 0 with
   |none=>
    have hv:=Qh (Zj1 hne hf);have Hf:=Qh hf;clear hne hf
    go_enter Tryz.func168,Tryz.ntmps168
    go_wp2_with fail
    refine(Zh3 F _ txs ords A c B d 0 HH.out Hf.out).mono ?_;rintro e w1 ⟨rfl,hu1⟩;have bv:=(B1.out.upd hu1 id).alloc (.cells #[.int .i64 0,.bool false,.slice none 0 0] 85);have g0:=bv.cell 0;have g1:=bv.cell 1;have g2:=bv.cell 2;simp only[Qz,Qs]at g0 g1 g2;go_wp2
    go_quiet (fail)
    go_wp2
    go_ret
    exact⟨by rw[hv.out];rfl,((uu.trans hu1).alloc _).drewN _⟩
   |some t=>
    have hv:=Qh (Zj0 hne hf);have Hf:=Qh hf;have hfew:=Qh (H.tx t (ZeJ hf)).2.2.1;clear hne hf
    by_cases hn1:1≤nth
    ·go_enter Tryz.func168,Tryz.ntmps168
     go_wp2_with fail
     refine(ZdS F _ txs ords A c B d 0 HH.out Hf.out).mono ?_;rintro e w1 ⟨A1,c1,rfl,hc1,hh1,hu1⟩;have bv:=(B1.out.upd hu1 id).alloc (.cells #[.int .i64 t.id,.bool t.done,.slice A1 t.ops.length c1] 85);have bt:=Blk.new w1 85 [.int .i64 t.id,.bool t.done,.slice A1 t.ops.length c1];have hh2:=HOps.upd hh1 ((Upd.refl No w1).alloc (.cells #[.int .i64 t.id,.bool t.done,.slice A1 t.ops.length c1] 85)) (fun _ _=>id);have g0:=bv.cell 0;have g1:=bv.cell 1;have g2:=bv.cell 2;have k0:=bt.cell 0;have k1:=bt.cell 1;have k2:=bt.cell 2;simp only[Qz,Qs]at g0 g1 g2 k0 k1 k2;have U1:=Qh ((uu.trans hu1).alloc (.cells #[.int .i64 t.id,.bool t.done,.slice A1 t.ops.length c1] 85));go_wp2
     go_region_held3 (fun w'=>w'.cell? ⟨w.heap.size+1,0,none⟩=some (.int .i64 0)∧w'.cell? ⟨w.heap.size+1,1,none⟩=some (.int .i64 key)∧w'.cell? ⟨w.heap.size+1,2,none⟩=some (.int .i64 nth)∧
       w'.cell? ⟨w1.heap.size,0,none⟩=some (.int .i64 t.id)∧w'.cell? ⟨w1.heap.size,1,none⟩=some (.bool t.done)∧w'.cell? ⟨w1.heap.size,2,none⟩=some (.slice A1 t.ops.length c1)∧Upd No w w')
      (first|exact⟨g0,g1,g2,k0,k1,k2,U1.out.drew⟩|exact⟨g0,g1,g2,k0,k1,k2,U1.out⟩|(go_split_ands;refine⟨?_,?_,?_,?_,?_,?_,?_⟩<;>first|assumption|(exact hu3.keepNo (by assumption))|(exact Upd.trans (by assumption) hu3)))
      ((go_at_call 135;refine(Zi0 _ _ t.id t.done A1 c1 t.ops key (by exact hh2) hfew.out).mono ?_;rintro e w3 ⟨rfl,hu3⟩))
     go_wp2
     go_ret
     exact⟨by rw[hv.out,decide_eq_true hn1];rfl,(by go_split_ands;assumption)⟩
    ·go_enter Tryz.func168,Tryz.ntmps168
     go_wp2_with fail
     refine(ZdS F _ txs ords A c B d 0 HH.out Hf.out).mono ?_;rintro e w1 ⟨A1,c1,rfl,hc1,hh1,hu1⟩;have bv:=(B1.out.upd hu1 id).alloc (.cells #[.int .i64 t.id,.bool t.done,.slice A1 t.ops.length c1] 85);have g0:=bv.cell 0;have g1:=bv.cell 1;have g2:=bv.cell 2;simp only[Qz,Qs]at g0 g1 g2;have hnb:decide (1≤nth)=false:=decide_eq_false (by omega);go_wp2
     go_quiet (fail)
     go_wp2
     go_ret
     exact⟨by rw[hv.out,decide_eq_false (show¬1≤nth by omega),Bool.false_and];rfl,((uu.trans hu1).alloc _).drewN _⟩
 ·have hne:¬((⟨tx,key,nth⟩:Ver).tx=0∧(⟨tx,key,nth⟩:Ver).nth=0):=fun e=>h1 e.1
  have h1b:(tx==0)=false:=by simpa using h1
  clear h1;have HH:=Qh (H.upd uu (fun _ _=>id));have b1:=Blk.new (w.alloc (.cells #[.slice A txs.length c,.slice B ords.length d] 50)) 36 [.int .i64 tx,.int .i64 key,.int .i64 nth];simp only[World.size_alloc]at b1;have B1:=Qh b1;clear b1
  cases hf:Zv txs tx with
  |none=>
   have hv:=Qh (Zj1 hne hf);have Hf:=Qh hf;clear hne hf
   go_enter Tryz.func168,Tryz.ntmps168
   go_wp2_with fail
   refine(Zh3 F _ txs ords A c B d tx HH.out Hf.out).mono ?_;rintro e w1 ⟨rfl,hu1⟩;have bv:=(B1.out.upd hu1 id).alloc (.cells #[.int .i64 0,.bool false,.slice none 0 0] 85);have g0:=bv.cell 0;have g1:=bv.cell 1;have g2:=bv.cell 2;simp only[Qz,Qs]at g0 g1 g2;go_wp2
   go_quiet (fail)
   go_wp2
   go_ret
   exact⟨by rw[hv.out];rfl,((uu.trans hu1).alloc _).drewN _⟩
  |some t=>
   have hv:=Qh (Zj0 hne hf);have Hf:=Qh hf;have hfew:=Qh (H.tx t (ZeJ hf)).2.2.1;clear hne hf
   by_cases hn1:1≤nth
   ·go_enter Tryz.func168,Tryz.ntmps168
    go_wp2_with fail
    refine(ZdS F _ txs ords A c B d tx HH.out Hf.out).mono ?_;rintro e w1 ⟨A1,c1,rfl,hc1,hh1,hu1⟩;have bv:=(B1.out.upd hu1 id).alloc (.cells #[.int .i64 t.id,.bool t.done,.slice A1 t.ops.length c1] 85);have bt:=Blk.new w1 85 [.int .i64 t.id,.bool t.done,.slice A1 t.ops.length c1];have hh2:=HOps.upd hh1 ((Upd.refl No w1).alloc (.cells #[.int .i64 t.id,.bool t.done,.slice A1 t.ops.length c1] 85)) (fun _ _=>id);have g0:=bv.cell 0;have g1:=bv.cell 1;have g2:=bv.cell 2;have k0:=bt.cell 0;have k1:=bt.cell 1;have k2:=bt.cell 2;simp only[Qz,Qs]at g0 g1 g2 k0 k1 k2;have U1:=Qh ((uu.trans hu1).alloc (.cells #[.int .i64 t.id,.bool t.done,.slice A1 t.ops.length c1] 85));go_wp2
    go_region_held3 (fun w'=>w'.cell? ⟨w.heap.size+1,0,none⟩=some (.int .i64 tx)∧w'.cell? ⟨w.heap.size+1,1,none⟩=some (.int .i64 key)∧w'.cell? ⟨w.heap.size+1,2,none⟩=some (.int .i64 nth)∧
      w'.cell? ⟨w1.heap.size,0,none⟩=some (.int .i64 t.id)∧w'.cell? ⟨w1.heap.size,1,none⟩=some (.bool t.done)∧w'.cell? ⟨w1.heap.size,2,none⟩=some (.slice A1 t.ops.length c1)∧Upd No w w')
     (first|exact⟨g0,g1,g2,k0,k1,k2,U1.out.drew⟩|exact⟨g0,g1,g2,k0,k1,k2,U1.out⟩|(go_split_ands;refine⟨?_,?_,?_,?_,?_,?_,?_⟩<;>first|assumption|(exact hu3.keepNo (by assumption))|(exact Upd.trans (by assumption) hu3)))
     ((go_at_call 135;refine(Zi0 _ _ t.id t.done A1 c1 t.ops key (by exact hh2) hfew.out).mono ?_;rintro e w3 ⟨rfl,hu3⟩))
    go_wp2
    go_ret
    exact⟨by rw[hv.out,decide_eq_true hn1];rfl,(by go_split_ands;assumption)⟩
   ·go_enter Tryz.func168,Tryz.ntmps168
    go_wp2_with fail
    refine(ZdS F _ txs ords A c B d tx HH.out Hf.out).mono ?_;rintro e w1 ⟨A1,c1,rfl,hc1,hh1,hu1⟩;have bv:=(B1.out.upd hu1 id).alloc (.cells #[.int .i64 t.id,.bool t.done,.slice A1 t.ops.length c1] 85);have g0:=bv.cell 0;have g1:=bv.cell 1;have g2:=bv.cell 2;simp only[Qz,Qs]at g0 g1 g2;have hnb:decide (1≤nth)=false:=decide_eq_false (by omega);go_wp2
    go_quiet (fail)
    go_wp2
    go_ret
    exact⟨by rw[hv.out,decide_eq_false (show¬1≤nth by omega),Bool.false_and];rfl,((uu.trans hu1).alloc _).drewN _⟩
end
/- Whether a history is right,by the document. -/
section
open Go.RowKit
theorem ZfS {id:Int} {l:List HOp} (h:ZaH id l=0):l.length≤4095:=by
 unfold ZaH at h
 split at h
 ·cases h
 ·split at h
  ·cases h
  ·omega
section
variable {F:Nat→Prop} {w:World} {txs:List HTx} {ords:List HOrd} {A:Option Addr} {c:Nat} {B:Option Addr} {d:Nat} {i0:Int} {dn:Bool} {A1:Option Addr} {c1:Nat} {l:List HOp}
end
end
end Go.Proofs.YtonblekdfinpkaaGreat
