/- What the program tells of histories, in plain words: needs, keys, writers, right; and of edges, reads and witnesses. -/
import Derived.Shelf.SlicesG.CompactI
import Derived.Test.YticmndpiehinjaaGreatMac
import Derived.Test.YticmndpiehinjaaGreatMao
import Derived.Test.YticmndpiehinjaaGreatMaw
import Derived.Test.YticmndpiehinjaaGreatMax
import Derived.Test.YticmndpiehinjaaGreatMbc
namespace Go.Proofs.YticmndpiehinjaaGreat
set_option linter.unusedVariables false
set_option linter.unusedSimpArgs false
section
open Go.RowKit
def ZbO (id:Int) (o:HOp):Bool:=o.read&& !((ZF o).tx==0)&& !((ZF o).tx==id)
def Zaq (id:Int) (l:List HOp):Nat→List Ver
 |0=>[]
 |k+1=>
  match l[k]? with
  |some o=>if ZbO id o&& !(Zaq id l k).contains (ZF o) then Zaq id l k++[ZF o] else Zaq id l k
  |none=>Zaq id l k
def ZfM (id:Int) (l:List HOp):List Ver:=Zaq id l l.length
def ZaI (txs:List HTx) (v:Ver):Bool:=
 if v.tx=0∧v.nth=0 then idB v.key
 else match Zg txs v.tx with
  |some t=>decide (1≤v.nth)&&decide (v.nth≤(Ze t.ops v.key:Int))
  |none=>false
def ZbB (txs:List HTx) (id:Int) (l:List HOp):Bool:=(ZfM id l).all (ZaI txs)
def ZaK (l:List HOp) (f:HOp→Bool):List Int:=(l.filter f).map (·.key)
def Zar (l:List HOp):List Int:=ZB (ZaK l fun o=> !o.read)
def ZbX (s:List Int):List Int→List Int
 |[]=>s
 |k::l=>ZbX (if k∈s then s else s++[k]) l
def ZE:List HTx→List Int→List Int
 |[],s=>s
 |t::l,s=>ZE l (if t.done then ZbX s (Zar t.ops) else s)
def Zj (txs:List HTx) (key:Int):List Int:=(txs.filter fun t=>t.done&&(Zar t.ops).contains key).map (·.id)
def ZcR (txs:List HTx) (i:Nat):Bool:=
 match txs[i]? with
 |none=>true
 |some t=>(match i with|0=>true|j+1=>(match txs[j]? with|some u=>decide (u.id<t.id)|none=>true))&&Z1 t.id t.ops==0&&ZbB txs t.id t.ops
def Zdk (txs:List HTx) (ords:List HOrd) (i:Nat):Bool:=
 match ords[i]? with
 |none=>true
 |some o=>(match i with|0=>true|j+1=>(match ords[j]? with|some u=>decide (u.key<o.key)|none=>true))&& !o.txs.isEmpty&&(Zbo o.txs==Zbo (Zj txs o.key))
def Zc (h:Hist):Bool:=
 decide (h.txs.length≤4096)&&(List.range h.txs.length).all (ZcR h.txs)&&(ZE h.txs []).length==h.ords.length&&(List.range h.ords.length).all (Zdk h.txs h.ords)
def ZQ (txs:List HTx) (id:Int):Option HTx:=match Zg txs id with|some t=>if t.done then some t else none|none=>none
def ZbZ (txs:List HTx) (v:Ver):Bool:=if v.tx=0 then true else match ZQ txs v.tx with|some t=>v.nth==(Ze t.ops v.key:Int)|none=>false
def Zc0 (ords:List HOrd) (key x y:Int):Bool:=Zay (Zda ords key) x==some y
def Znd (id:Int) (l:List HOp) (key:Int) (counts:Ver→Bool):Bool:=l.any fun o=>o.read&&o.key==key&& !(o.tx==id)&&counts (ZF o)
def ZpX (h:Hist) (e:Edge):Bool:=
 match ZQ h.txs e.f,ZQ h.txs e.t with
 |some a,some b=>
  if e.f=e.t then false
  else if e.k=1 then Zc0 h.ords e.key e.f e.t
  else if e.k=2 then Znd b.id b.ops e.key fun v=>v.tx==e.f&&ZbZ h.txs v
  else if e.k=3 then Znd a.id a.ops e.key fun v=>ZbZ h.txs v&&Zc0 h.ords e.key v.tx e.t
  else false
 |_,_=>false
structure HBad where
 tx:Int
 place:Int
 of:Ver
deriving DecidableEq
def HBad.cells (b:HBad):List Value:=[.int .i64 b.tx,.int .i64 b.place,.int .i64 b.of.tx,.int .i64 b.of.key,.int .i64 b.of.nth]
def ZtW (txs:List HTx) (p:Int) (b:HBad):Bool:=
 match ZQ txs b.tx with
 |none=>false
 |some t=>
  if b.place<0 then false
  else match t.ops[b.place.toNat]? with
   |none=>false
   |some o=>
    if !o.read|| !(ZF o==b.of)||o.tx==0||o.tx==t.id then false
    else if p=2 then (match Zg txs o.tx with|some u=> !u.done|none=>true)
    else if p=3 then decide (o.nth<(Ze (match Zg txs o.tx with|some u=>u.ops|none=>[]) o.key:Int))
    else false
def ZqJ (m p:Int):Bool:=(bits .andNot .i64 m (Zbr p)==0)&&(Zce p==0|| !(bits .and .i64 m (Zce p)==0))
def Zgp:HBad:=⟨0,0,⟨0,0,0⟩⟩
def ZdX (h:Hist) (p:Int) (l:List Edge) (b:HBad):Bool:=
 Zc h&&(if p=2∨p=3 then decide (l.length=0)&&ZtW h.txs p b
  else !(Zbr p==0)&&b==Zgp&&Zq4 l&&ZqJ (ZrS l) p&&l.all (ZpX h))
/-! from any place -/
end
/- The keys that a transaction writes. -/
section
open Go.RowKit
theorem Zhc (w:World) (base:Nat) (A:Option Addr) (c:Nat) (l:List Int) (hown:w.ownsRow base 3 1 (.slice A l.length c) l.length (l.map (Value.int .i64))) (hl:l.length≤17592186044415):
  Calls Tryz.prog 120 #[.slice A l.length c] w fun e w'=>e= .returned (.slice A (Lib.compact l).length c)∧w'.ownsRow base 3 1 (.slice A (Lib.compact l).length c) (Lib.compact l).length ((Lib.compact l).map (Value.int .i64))∧Upd (Own (.slice A l.length c)) w w':=by
 rcases hown.2 with ⟨hv,hn⟩|⟨g,cap,cur,hv,hbg,hg,hnc,hcm,hcs,htake⟩
 ·have hl0:l=[]:=List.eq_nil_of_length_eq_zero hn;subst hl0;refine Calls.mono (AnyG.slices_Compact_int_empty Zf8 A c w) ?_;rintro e w' ⟨rfl,rfl⟩;exact⟨rfl,hown,Upd.refl _ _⟩
 ·cases hv
  have hb:Blk w g 3 cur.toList:=by unfold Blk;rw[Array.toArray_toList];exact hg
  have hcs':cur.size=c:=by simpa using hcs
  have htake':cur.toList.take l.length=l.map (Value.int .i64):=by simpa using htake
  have hH:Sort.Holds (Value.int .i64) w g 0 l.toArray:=fun j hj=>by
   simp only[List.size_toArray]at hj;rw[Nat.zero_add];refine⟨?_,hb.free j⟩;rw[hb.cell j];have h1:(cur.toList.take l.length)[j]? =cur.toList[j]? :=by rw[List.getElem?_take,if_pos hj]
   rw[←h1,htake',List.getElem?_map,Qg hj];simp[hj]
  have hlt:=hb.lt;have hcl:(Lib.compact l).length≤l.length:=by rw[Zh8];exact Ziy _ _
  refine Calls.mono (AnyG.slices_Compact_int Zf8 g 0 c l w hH (by omega) hnc) ?_;rintro e w' ⟨rfl,q,rfl⟩;obtain⟨R,hR,hRl⟩:∃R:List Int,R=Lib.compact l++List.replicate (l.length-(Lib.compact l).length) 0∧R.length=l.length:=⟨_,rfl,by simp;omega⟩
  have e1:(Sort.putRow (Value.int .i64) (Sort.ahead w q) g 0 (Lib.compact l++List.replicate (l.length-(Lib.compact l).length) 0).toArray).heap[g]? =some (.cells (Sort.putCells (Value.int .i64) 0 R.toArray cur) 3 (0,0)):=by
   unfold Sort.putRow Sort.mapBlock;simp only;rw[Array.getElem?_modify];simp only[if_true];rw[show(Sort.ahead w q).heap=w.heap from rfl,hg,hR];rfl
  rw[ZiS _ _ (by simp only[List.size_toArray];omega)]at e1;refine⟨rfl,⟨by simp,.inr ⟨g,c,_,rfl,hbg,e1,by omega,hcm,?_,?_⟩⟩,⟨rfl,rfl,rfl,?_,fun k hk hn=> ?_⟩⟩
  ·simp only[List.size_toArray,List.length_append,List.length_map,List.length_drop,Array.length_toList,hRl];omega
  ·rw[Nat.mul_one]
   show List.take _ (List.map (Value.int .i64) R++_)=_
   rw[hR,List.map_append,List.append_assoc,List.take_append_of_le_length (by simp),List.take_of_length_le (by simp)]
  ·unfold Sort.putRow Sort.mapBlock;simp only[Array.size_modify];exact Nat.le_refl _
  ·have hne:g≠k:=fun e=>hn (by unfold Own;rw[e];rfl)
   unfold Sort.putRow Sort.mapBlock;simp only;rw[Array.getElem?_modify,if_neg hne];rfl
theorem Zmj {l:List HOp} {k:Nat} {x:HOp} (hk:k<l.length) (hx:l[k]=x) (hr:x.read=false):ZaK (l.take (k+1)) (fun o=> !o.read)=ZaK (l.take k) (fun o=> !o.read)++[x.key]:=by
 subst hx;unfold ZaK;rw[List.take_succ_eq_append_getElem hk,List.filter_append,List.map_append,List.filter_cons_of_pos (by rw[hr];rfl)];rfl
theorem ZnH {l:List HOp} {k:Nat} {x:HOp} (hk:k<l.length) (hx:l[k]=x) (hr:x.read=true):ZaK (l.take (k+1)) (fun o=> !o.read)=ZaK (l.take k) (fun o=> !o.read):=by
 subst hx;unfold ZaK;rw[List.take_succ_eq_append_getElem hk,List.filter_append,List.map_append,List.filter_cons_of_neg (by rw[hr];decide)];simp
theorem ZnI (l:List HOp) (f:HOp→Bool):(ZaK l f).length≤l.length:=by
 unfold ZaK;rw[List.length_map];exact List.length_filter_le _ _
set_option maxRecDepth 100000 in
set_option maxHeartbeats 1000000 in
theorem ZsZ (F:Nat→Prop) (w:World) (i0:Int) (dn:Bool) (A:Option Addr) (c:Nat) (l:List HOp) (h:HOps F w A l) (hl:Zn l.length):
  Calls Tryz.prog 175 #[.agg #[.int .i64 i0,.bool dn,.slice A l.length c],.func (.func 176) #[] #[]] w (Zfv w (Zar l)):=by
 unfold Zn at hl
 go_enter Tryz.func175,Tryz.ntmps175
 go_wp2
 go_loopg [5,11] l.length (fun gk s i wr=>∃(k:Nat) (A5:Option Addr) (c5:Nat) (xs:List Int),k+gk=l.length∧i= .int .i64 k∧s= .slice A5 xs.length c5∧Hid (xs=ZaK (l.take k) fun o=> !o.read)∧xs.length≤k∧
  wr.ownsRow w.heap.size 3 1 (.slice A5 xs.length c5) xs.length (xs.map (Value.int .i64))∧Upd No w wr)
 case atStart=>exact⟨0,none,0,[],by omega,rfl,rfl,Qh (by simp[ZaK]),by simp,World.ownsRow_nil _ _ _ _,(Upd.refl _ _).alloc _⟩
 case round=>
  obtain⟨k,A5,c5,xs,hgk,rfl,rfl,hxs,hxl,hown,hu⟩:=hrel
  by_cases hlt:k<l.length
  ·obtain⟨ad,hAd,q0,q1,q2,q3⟩:=(h.upd hu (fun _ _=>id)).at_ hlt;obtain⟨x,hx⟩:∃x,l[k]=x:=⟨_,rfl⟩;rw[hx]at q0 q1 q2 q3;subst hAd;have X:=Qh hx;clear hx;have b1:(0:Int)≤(k:Int):=Qn _;have b2:(k:Int)<(l.length:Int):=by omega
   have uA:=(Upd.refl No wr).alloc (.cells #[.bool x.read,.int .i64 x.key,.int .i64 x.tx,.int .i64 x.nth] 48);have bo:=Blk.new wr 48 [.bool x.read,.int .i64 x.key,.int .i64 x.tx,.int .i64 x.nth];have hown1:=Za hown uA (fun _ _=>id)
   cases hr:x.read
   ·rw[hr]at q0 uA bo hown1;have HS:=Qh (Zmj hlt X.out hr);have Hr:=Qh hr;clear hr
    go_wp2_with fail
    refine(ZlA _ ⟨false,x.key,x.tx,x.nth⟩).mono ?_;rintro e w1 ⟨rfl,hu1⟩;have bo1:=bo.upd hu1 id;have g1:=bo1.cell 1;simp only[Qz,Qs]at g1;have hown2:=Za hown1 hu1 (fun _ _=>id);have hz1:=(uA.trans hu1).size;have hz0:=hu.size;have Hu1:=Qh ((hu.trans uA).trans hu1);clear hown1 uA hu1
    go_wp2_with (at_builtin;refine ZX rfl rfl Zbw (v:= .slice A5 xs.length c5) (cells:=[.int .i64 x.key]) (by rfl) rfl hown2 rfl rfl (by omega) (by omega) (by omega) ?_;intro g' c' w2 hown3 hu3 hg3 hlt3)
    go_roundg (gk-1)
    case measure=>omega
    case rel=>
     refine⟨k+1,some ⟨g',0,none⟩,c',xs++[x.key],by omega,by go_num,by simp,Qh (by rw[HS.out,hxs.out]),by simp;omega,by simpa using hown3,Hu1.out.then_ hu3 fun i e=> ?_⟩;exact .inr (hown2.lt i e).1
   ·rw[hr]at q0 uA bo hown1;have HS:=Qh (ZnH hlt X.out hr);have Hr:=Qh hr;clear hr
    go_wp2_with fail
    refine(ZlA _ ⟨true,x.key,x.tx,x.nth⟩).mono ?_;rintro e w1 ⟨rfl,hu1⟩;have Hu1:=Qh ((hu.trans uA).trans hu1);have hown2:=Za hown1 hu1 (fun _ _=>id);clear hown1 uA hu1;go_wp2
    go_roundg (gk-1)
    case measure=>omega
    case rel=>exact⟨k+1,A5,c5,xs,by omega,by go_num,rfl,Qh (by rw[HS.out,hxs.out]),by omega,hown2,Hu1.out⟩
  ·obtain rfl:k=l.length:=by omega
   have Hx:=Qh (show xs=ZaK l fun o=> !o.read by rw[hxs.out,List.take_length]);clear hxs;have hsl:=Qh (ZbF xs);have Hk:=Qh (show Lib.compact (Zaa xs)=Zar l by rw[ZcU,Hx.out];rfl)
   go_wp2_with fail
   refine(ZhU _ _ A5 c5 xs hown (by omega)).mono ?_;rintro e w1 ⟨rfl,ho1,hu1⟩;have ho1':w1.ownsRow w.heap.size 3 1 (.slice A5 (Zaa xs).length c5) (Zaa xs).length ((Zaa xs).map (Value.int .i64)):=by rw[hsl.out];exact ho1
   have hic:=Zhc w1 w.heap.size A5 c5 (Zaa xs) ho1' (by rw[hsl.out];omega);rw[Hk.out,hsl.out]at hic;have Hic:=Qh hic;have hge:=Qh (show∀i,Own (.slice A5 xs.length c5) i→w.heap.size≤i from fun i e=>(hown.lt i e).1);clear hic ho1 ho1' hown
   go_wp2_with fail
   refine(Hic.out).mono ?_;rintro e w2 ⟨rfl,ho2,hu2⟩;go_wp2
   go_ret
   exact⟨A5,c5,rfl,ho2,(hu.then_ hu1 fun i e=> .inr (hge.out i e)).then_ hu2 fun i e=> .inr (hge.out i e)⟩
set_option maxRecDepth 100000 in
theorem Zs0 (F:Nat→Prop) (w:World) (i0:Int) (dn:Bool) (A:Option Addr) (c:Nat) (l:List HOp) (h:HOps F w A l) (hl:Zn l.length):
  Calls Tryz.prog 144 #[.agg #[.int .i64 i0,.bool dn,.slice A l.length c]] w (Zfv w (Zar l)):=by
 have h1:=h.upd ((Upd.refl No w).alloc (.cells #[.int .i64 i0,.bool dn,.slice A l.length c] 42)) (fun _ _=>id)
 go_enter Tryz.func144,Tryz.ntmps144
 go_wp2_with fail
 refine(ZsZ F _ i0 dn A c l h1 hl).mono ?_;rintro e w1 ⟨A1,c1,rfl,ho,hu⟩;go_wp2
 go_ret
 exact⟨A1,c1,rfl,Zx ho (by simp),((Upd.refl No w).alloc _).trans hu⟩
end
/- Whether a version is there. -/
section
open Go.RowKit
theorem ZnP {txs:List HTx} {v:Ver} (h1:v.tx=0) (h2:v.nth=0):ZaI txs v=idB v.key:=by unfold ZaI;rw[if_pos ⟨h1,h2⟩]
theorem Zjf {txs:List HTx} {v:Ver} (h:¬(v.tx=0∧v.nth=0)) (hf:Zg txs v.tx=none):ZaI txs v=false:=by unfold ZaI;rw[if_neg h,hf]
theorem Zje {txs:List HTx} {v:Ver} {t:HTx} (h:¬(v.tx=0∧v.nth=0)) (hf:Zg txs v.tx=some t):ZaI txs v=(decide (1≤v.nth)&&decide (v.nth≤(Ze t.ops v.key:Int))):=by unfold ZaI;rw[if_neg h,hf]
section
variable (F:Nat→Prop) (w:World) (txs:List HTx) (ords:List HOrd) (A:Option Addr) (c:Nat) (B:Option Addr) (d:Nat) (i:Int)
theorem ZhB (H:Hist.lies F w ⟨txs,ords,A,c,B,d⟩) (hf:Zg txs i=none):Calls Tryz.prog 174 #[.agg #[.slice A txs.length c,.slice B ords.length d],.int .i64 i] w fun e w'=>
  e= .returned (.tuple #[.agg #[.int .i64 0,.bool false,.slice none 0 0],.bool false])∧Upd No w w':=by
 refine(ZpU F w ⟨txs,ords,A,c,B,d⟩ i H).mono ?_;intro e w' h;unfold Zdp at h;rw[show Zg (Hist.txs ⟨txs,ords,A,c,B,d⟩) i=none from hf]at h;exact h
theorem ZdJ {t:HTx} (H:Hist.lies F w ⟨txs,ords,A,c,B,d⟩) (hf:Zg txs i=some t):Calls Tryz.prog 174 #[.agg #[.slice A txs.length c,.slice B ords.length d],.int .i64 i] w fun e w'=>
  ∃A' c',e= .returned (.tuple #[.agg #[.int .i64 t.id,.bool t.done,.slice A' t.ops.length c'],.bool true])∧t.ops.length≤c'∧HOps (fun i=>w.heap.size≤i) w' A' t.ops∧Upd No w w':=by
 refine(ZpU F w ⟨txs,ords,A,c,B,d⟩ i H).mono ?_;intro e w' h;unfold Zdp at h;rw[show Zg (Hist.txs ⟨txs,ords,A,c,B,d⟩) i=some t from hf]at h;obtain⟨⟨A',c',h1,h2,h3⟩,h4⟩:=h;exact⟨A',c',h1,h2,h3,h4⟩
end
theorem Zer {txs:List HTx} {i:Int} {t:HTx} (h:Zg txs i=some t):t∈txs:=List.mem_of_find?_eq_some h
set_option maxRecDepth 100000 in
set_option maxHeartbeats 1000000 in
theorem ZtM (F:Nat→Prop) (w:World) (h:Hist) (v:Ver) (H:h.lies F w):Calls Tryz.prog 143 #[h.val,.agg v.cells.toArray] w fun e w'=>e= .returned (.bool (ZaI h.txs v))∧Upd No w w':=by
 obtain⟨txs,ords,A,c,B,d⟩:=h;obtain⟨tx,key,nth⟩:=v;unfold Hist.val Ver.cells;have uu:=((Upd.refl No w).alloc (.cells #[.slice A txs.length c,.slice B ords.length d] 25)).alloc (.cells #[.int .i64 tx,.int .i64 key,.int .i64 nth] 28)
 by_cases h1:tx=0
 ·subst h1
  by_cases h2:nth=0
  ·subst h2;have hv:=Qh (ZnP (txs:=txs) (v:=⟨0,key,0⟩) rfl rfl);unfold idB at hv
   by_cases b1:1≤key
   ·by_cases b2:key≤1048575
    ·go_enter Tryz.func143,Tryz.ntmps143
     go_wp2
     go_ret
     exact⟨by rw[hv.out,decide_eq_true b1,decide_eq_true b2];rfl,uu⟩
    ·go_enter Tryz.func143,Tryz.ntmps143
     go_wp2
     go_ret
     exact⟨by rw[hv.out,decide_eq_false (show¬key≤1048575 by omega),Bool.and_false];rfl,uu⟩
   ·go_enter Tryz.func143,Tryz.ntmps143
    go_wp2
    go_ret
    exact⟨by rw[hv.out,decide_eq_false (show¬1≤key by omega),Bool.false_and];rfl,uu⟩
  ·have hne:¬((⟨0,key,nth⟩:Ver).tx=0∧(⟨0,key,nth⟩:Ver).nth=0):=fun e=>h2 e.2
   have h2b:(nth==0)=false:=by simpa using h2
   clear h2;have HH:=Qh (H.upd uu (fun _ _=>id));have b1:=Blk.new (w.alloc (.cells #[.slice A txs.length c,.slice B ords.length d] 25)) 28 [.int .i64 0,.int .i64 key,.int .i64 nth];simp only[World.size_alloc]at b1;have B1:=Qh b1;clear b1
   cases hf:Zg txs 0 with
   |none=>
    have hv:=Qh (Zjf hne hf);have Hf:=Qh hf;clear hne hf
    go_enter Tryz.func143,Tryz.ntmps143
    go_wp2_with fail
    refine(ZhB F _ txs ords A c B d 0 HH.out Hf.out).mono ?_;rintro e w1 ⟨rfl,hu1⟩;have bv:=(B1.out.upd hu1 id).alloc (.cells #[.int .i64 0,.bool false,.slice none 0 0] 42);have g0:=bv.cell 0;have g1:=bv.cell 1;have g2:=bv.cell 2;simp only[Qz,Qs]at g0 g1 g2;go_wp2
    go_quiet (fail)
    go_wp2
    go_ret
    exact⟨by rw[hv.out];rfl,((uu.trans hu1).alloc _).drewN _⟩
   |some t=>
    have hv:=Qh (Zje hne hf);have Hf:=Qh hf;have hfew:=Qh (H.tx t (Zer hf)).2.2.1;clear hne hf
    by_cases hn1:1≤nth
    ·go_enter Tryz.func143,Tryz.ntmps143
     go_wp2_with fail
     refine(ZdJ F _ txs ords A c B d 0 HH.out Hf.out).mono ?_;rintro e w1 ⟨A1,c1,rfl,hc1,hh1,hu1⟩;have bv:=(B1.out.upd hu1 id).alloc (.cells #[.int .i64 t.id,.bool t.done,.slice A1 t.ops.length c1] 42);have bt:=Blk.new w1 42 [.int .i64 t.id,.bool t.done,.slice A1 t.ops.length c1];have hh2:=HOps.upd hh1 ((Upd.refl No w1).alloc (.cells #[.int .i64 t.id,.bool t.done,.slice A1 t.ops.length c1] 42)) (fun _ _=>id);have g0:=bv.cell 0;have g1:=bv.cell 1;have g2:=bv.cell 2;have k0:=bt.cell 0;have k1:=bt.cell 1;have k2:=bt.cell 2;simp only[Qz,Qs]at g0 g1 g2 k0 k1 k2;have U1:=Qh ((uu.trans hu1).alloc (.cells #[.int .i64 t.id,.bool t.done,.slice A1 t.ops.length c1] 42));go_wp2
     go_region_held3 (fun w'=>w'.cell? ⟨w.heap.size+1,0,none⟩=some (.int .i64 0)∧w'.cell? ⟨w.heap.size+1,1,none⟩=some (.int .i64 key)∧w'.cell? ⟨w.heap.size+1,2,none⟩=some (.int .i64 nth)∧
       w'.cell? ⟨w1.heap.size,0,none⟩=some (.int .i64 t.id)∧w'.cell? ⟨w1.heap.size,1,none⟩=some (.bool t.done)∧w'.cell? ⟨w1.heap.size,2,none⟩=some (.slice A1 t.ops.length c1)∧Upd No w w')
      (first|exact⟨g0,g1,g2,k0,k1,k2,U1.out.drew⟩|exact⟨g0,g1,g2,k0,k1,k2,U1.out⟩|(go_split_ands;refine⟨?_,?_,?_,?_,?_,?_,?_⟩<;>first|assumption|(exact hu3.keepNo (by assumption))|(exact Upd.trans (by assumption) hu3)))
      ((go_at_call 136;refine(Zin _ _ t.id t.done A1 c1 t.ops key (by exact hh2) hfew.out).mono ?_;rintro e w3 ⟨rfl,hu3⟩))
     go_wp2
     go_ret
     exact⟨by rw[hv.out,decide_eq_true hn1];rfl,(by go_split_ands;assumption)⟩
    ·go_enter Tryz.func143,Tryz.ntmps143
     go_wp2_with fail
     refine(ZdJ F _ txs ords A c B d 0 HH.out Hf.out).mono ?_;rintro e w1 ⟨A1,c1,rfl,hc1,hh1,hu1⟩;have bv:=(B1.out.upd hu1 id).alloc (.cells #[.int .i64 t.id,.bool t.done,.slice A1 t.ops.length c1] 42);have g0:=bv.cell 0;have g1:=bv.cell 1;have g2:=bv.cell 2;simp only[Qz,Qs]at g0 g1 g2;have hnb:decide (1≤nth)=false:=decide_eq_false (by omega);go_wp2
     go_quiet (fail)
     go_wp2
     go_ret
     exact⟨by rw[hv.out,decide_eq_false (show¬1≤nth by omega),Bool.false_and];rfl,((uu.trans hu1).alloc _).drewN _⟩
 ·have hne:¬((⟨tx,key,nth⟩:Ver).tx=0∧(⟨tx,key,nth⟩:Ver).nth=0):=fun e=>h1 e.1
  have h1b:(tx==0)=false:=by simpa using h1
  clear h1;have HH:=Qh (H.upd uu (fun _ _=>id));have b1:=Blk.new (w.alloc (.cells #[.slice A txs.length c,.slice B ords.length d] 25)) 28 [.int .i64 tx,.int .i64 key,.int .i64 nth];simp only[World.size_alloc]at b1;have B1:=Qh b1;clear b1
  cases hf:Zg txs tx with
  |none=>
   have hv:=Qh (Zjf hne hf);have Hf:=Qh hf;clear hne hf
   go_enter Tryz.func143,Tryz.ntmps143
   go_wp2_with fail
   refine(ZhB F _ txs ords A c B d tx HH.out Hf.out).mono ?_;rintro e w1 ⟨rfl,hu1⟩;have bv:=(B1.out.upd hu1 id).alloc (.cells #[.int .i64 0,.bool false,.slice none 0 0] 42);have g0:=bv.cell 0;have g1:=bv.cell 1;have g2:=bv.cell 2;simp only[Qz,Qs]at g0 g1 g2;go_wp2
   go_quiet (fail)
   go_wp2
   go_ret
   exact⟨by rw[hv.out];rfl,((uu.trans hu1).alloc _).drewN _⟩
  |some t=>
   have hv:=Qh (Zje hne hf);have Hf:=Qh hf;have hfew:=Qh (H.tx t (Zer hf)).2.2.1;clear hne hf
   by_cases hn1:1≤nth
   ·go_enter Tryz.func143,Tryz.ntmps143
    go_wp2_with fail
    refine(ZdJ F _ txs ords A c B d tx HH.out Hf.out).mono ?_;rintro e w1 ⟨A1,c1,rfl,hc1,hh1,hu1⟩;have bv:=(B1.out.upd hu1 id).alloc (.cells #[.int .i64 t.id,.bool t.done,.slice A1 t.ops.length c1] 42);have bt:=Blk.new w1 42 [.int .i64 t.id,.bool t.done,.slice A1 t.ops.length c1];have hh2:=HOps.upd hh1 ((Upd.refl No w1).alloc (.cells #[.int .i64 t.id,.bool t.done,.slice A1 t.ops.length c1] 42)) (fun _ _=>id);have g0:=bv.cell 0;have g1:=bv.cell 1;have g2:=bv.cell 2;have k0:=bt.cell 0;have k1:=bt.cell 1;have k2:=bt.cell 2;simp only[Qz,Qs]at g0 g1 g2 k0 k1 k2;have U1:=Qh ((uu.trans hu1).alloc (.cells #[.int .i64 t.id,.bool t.done,.slice A1 t.ops.length c1] 42));go_wp2
    go_region_held3 (fun w'=>w'.cell? ⟨w.heap.size+1,0,none⟩=some (.int .i64 tx)∧w'.cell? ⟨w.heap.size+1,1,none⟩=some (.int .i64 key)∧w'.cell? ⟨w.heap.size+1,2,none⟩=some (.int .i64 nth)∧
      w'.cell? ⟨w1.heap.size,0,none⟩=some (.int .i64 t.id)∧w'.cell? ⟨w1.heap.size,1,none⟩=some (.bool t.done)∧w'.cell? ⟨w1.heap.size,2,none⟩=some (.slice A1 t.ops.length c1)∧Upd No w w')
     (first|exact⟨g0,g1,g2,k0,k1,k2,U1.out.drew⟩|exact⟨g0,g1,g2,k0,k1,k2,U1.out⟩|(go_split_ands;refine⟨?_,?_,?_,?_,?_,?_,?_⟩<;>first|assumption|(exact hu3.keepNo (by assumption))|(exact Upd.trans (by assumption) hu3)))
     ((go_at_call 136;refine(Zin _ _ t.id t.done A1 c1 t.ops key (by exact hh2) hfew.out).mono ?_;rintro e w3 ⟨rfl,hu3⟩))
    go_wp2
    go_ret
    exact⟨by rw[hv.out,decide_eq_true hn1];rfl,(by go_split_ands;assumption)⟩
   ·go_enter Tryz.func143,Tryz.ntmps143
    go_wp2_with fail
    refine(ZdJ F _ txs ords A c B d tx HH.out Hf.out).mono ?_;rintro e w1 ⟨A1,c1,rfl,hc1,hh1,hu1⟩;have bv:=(B1.out.upd hu1 id).alloc (.cells #[.int .i64 t.id,.bool t.done,.slice A1 t.ops.length c1] 42);have g0:=bv.cell 0;have g1:=bv.cell 1;have g2:=bv.cell 2;simp only[Qz,Qs]at g0 g1 g2;have hnb:decide (1≤nth)=false:=decide_eq_false (by omega);go_wp2
    go_quiet (fail)
    go_wp2
    go_ret
    exact⟨by rw[hv.out,decide_eq_false (show¬1≤nth by omega),Bool.false_and];rfl,((uu.trans hu1).alloc _).drewN _⟩
end
end Go.Proofs.YticmndpiehinjaaGreat
