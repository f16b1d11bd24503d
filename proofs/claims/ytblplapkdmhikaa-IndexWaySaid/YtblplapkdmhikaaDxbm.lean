/- The keys that a transaction writes. -/
import Derived.Shelf.SlicesG.CompactI
import Derived.Test.YtblplapkdmhikaaDxac
import Derived.Test.YtblplapkdmhikaaDxay
import Derived.Test.YtblplapkdmhikaaDxbf
namespace Go.Proofs.Ytblplapkdmhikaa
set_option linter.unusedVariables false
set_option linter.unusedSimpArgs false
section
open Go.RowKit
theorem Zfz (w:World) (base:Nat) (A:Option Addr) (c:Nat) (l:List Int) (hown:w.ownsRow base 3 1 (.slice A l.length c) l.length (l.map (Value.int .i64))) (hl:l.length≤17592186044415):
  Calls Try.prog 112 #[.slice A l.length c] w fun e w'=>e= .returned (.slice A (Lib.compact l).length c)∧w'.ownsRow base 3 1 (.slice A (Lib.compact l).length c) (Lib.compact l).length ((Lib.compact l).map (Value.int .i64))∧Upd (Own (.slice A l.length c)) w w':=by
 rcases hown.2 with ⟨hv,hn⟩|⟨g,cap,cur,hv,hbg,hg,hnc,hcm,hcs,htake⟩
 ·have hl0:l=[]:=List.eq_nil_of_length_eq_zero hn;subst hl0;refine Calls.mono (AnyG.slices_Compact_int_empty ZbT A c w) ?_;rintro e w' ⟨rfl,rfl⟩;exact⟨rfl,hown,Upd.refl _ _⟩
 ·cases hv
  have hb:Blk w g 3 cur.toList:=by unfold Blk;rw[Array.toArray_toList];exact hg
  have hcs':cur.size=c:=by simpa using hcs
  have htake':cur.toList.take l.length=l.map (Value.int .i64):=by simpa using htake
  have hH:Sort.Holds (Value.int .i64) w g 0 l.toArray:=fun j hj=>by
   simp only[List.size_toArray]at hj;rw[Nat.zero_add];refine⟨?_,hb.free j⟩;rw[hb.cell j];have h1:(cur.toList.take l.length)[j]? =cur.toList[j]? :=by rw[List.getElem?_take,if_pos hj]
   rw[←h1,htake',List.getElem?_map,Qg hj];simp[hj]
  have hlt:=hb.lt;have hcl:(Lib.compact l).length≤l.length:=by rw[Zcs];exact ZcE _ _
  refine Calls.mono (AnyG.slices_Compact_int ZbT g 0 c l w hH (by omega) hnc) ?_;rintro e w' ⟨rfl,q,rfl⟩;obtain⟨R,hR,hRl⟩:∃R:List Int,R=Lib.compact l++List.replicate (l.length-(Lib.compact l).length) 0∧R.length=l.length:=⟨_,rfl,by simp;omega⟩
  have e1:(Sort.putRow (Value.int .i64) (Sort.ahead w q) g 0 (Lib.compact l++List.replicate (l.length-(Lib.compact l).length) 0).toArray).heap[g]? =some (.cells (Sort.putCells (Value.int .i64) 0 R.toArray cur) 3 (0,0)):=by
   unfold Sort.putRow Sort.mapBlock;simp only;rw[Array.getElem?_modify];simp only[if_true];rw[show(Sort.ahead w q).heap=w.heap from rfl,hg,hR];rfl
  rw[ZcN _ _ (by simp only[List.size_toArray];omega)]at e1;refine⟨rfl,⟨by simp,.inr ⟨g,c,_,rfl,hbg,e1,by omega,hcm,?_,?_⟩⟩,⟨rfl,rfl,rfl,?_,fun k hk hn=> ?_⟩⟩
  ·simp only[List.size_toArray,List.length_append,List.length_map,List.length_drop,Array.length_toList,hRl];omega
  ·rw[Nat.mul_one]
   show List.take _ (List.map (Value.int .i64) R++_)=_
   rw[hR,List.map_append,List.append_assoc,List.take_append_of_le_length (by simp),List.take_of_length_le (by simp)]
  ·unfold Sort.putRow Sort.mapBlock;simp only[Array.size_modify];exact Nat.le_refl _
  ·have hne:g≠k:=fun e=>hn (by unfold Own;rw[e];rfl)
   unfold Sort.putRow Sort.mapBlock;simp only;rw[Array.getElem?_modify,if_neg hne];rfl
theorem Zeg {l:List HOp} {k:Nat} {x:HOp} (hk:k<l.length) (hx:l[k]=x) (hr:x.read=false):ZF (l.take (k+1)) (fun o=> !o.read)=ZF (l.take k) (fun o=> !o.read)++[x.key]:=by
 subst hx;unfold ZF;rw[List.take_succ_eq_append_getElem hk,List.filter_append,List.map_append,List.filter_cons_of_pos (by rw[hr];rfl)];rfl
theorem ZeS {l:List HOp} {k:Nat} {x:HOp} (hk:k<l.length) (hx:l[k]=x) (hr:x.read=true):ZF (l.take (k+1)) (fun o=> !o.read)=ZF (l.take k) (fun o=> !o.read):=by
 subst hx;unfold ZF;rw[List.take_succ_eq_append_getElem hk,List.filter_append,List.map_append,List.filter_cons_of_neg (by rw[hr];decide)];simp
theorem ZcU (l:List HOp) (f:HOp→Bool):(ZF l f).length≤l.length:=by
 unfold ZF;rw[List.length_map];exact List.length_filter_le _ _
set_option maxRecDepth 100000 in
set_option maxHeartbeats 1000000 in
theorem ZgU (F:Nat→Prop) (w:World) (i0:Int) (dn:Bool) (A:Option Addr) (c:Nat) (l:List HOp) (h:HOps F w A l) (hl:Zd l.length):
  Calls Try.prog 84 #[.agg #[.int .i64 i0,.bool dn,.slice A l.length c],.func (.func 85) #[] #[]] w (Z4 w (ZS l)):=by
 unfold Zd at hl
 go_enter Try.func84,Try.ntmps84
 go_wp2
 go_loopg [5,11] l.length (fun gk s i wr=>∃(k:Nat) (A5:Option Addr) (c5:Nat) (xs:List Int),k+gk=l.length∧i= .int .i64 k∧s= .slice A5 xs.length c5∧Hid (xs=ZF (l.take k) fun o=> !o.read)∧xs.length≤k∧
  wr.ownsRow w.heap.size 3 1 (.slice A5 xs.length c5) xs.length (xs.map (Value.int .i64))∧Upd No w wr)
 case atStart=>exact⟨0,none,0,[],by omega,rfl,rfl,Qh (by simp[ZF]),by simp,World.ownsRow_nil _ _ _ _,(Upd.refl _ _).alloc _⟩
 case round=>
  obtain⟨k,A5,c5,xs,hgk,rfl,rfl,hxs,hxl,hown,hu⟩:=hrel
  by_cases hlt:k<l.length
  ·obtain⟨ad,hAd,q0,q1,q2,q3⟩:=(h.upd hu (fun _ _=>id)).at_ hlt;obtain⟨x,hx⟩:∃x,l[k]=x:=⟨_,rfl⟩;rw[hx]at q0 q1 q2 q3;subst hAd;have X:=Qh hx;clear hx;have b1:(0:Int)≤(k:Int):=Qn _;have b2:(k:Int)<(l.length:Int):=by omega
   have uA:=(Upd.refl No wr).alloc (.cells #[.bool x.read,.int .i64 x.key,.int .i64 x.tx,.int .i64 x.nth] 75);have bo:=Blk.new wr 75 [.bool x.read,.int .i64 x.key,.int .i64 x.tx,.int .i64 x.nth];have hown1:=Zj hown uA (fun _ _=>id)
   cases hr:x.read
   ·rw[hr]at q0 uA bo hown1;have HS:=Qh (Zeg hlt X.out hr);have Hr:=Qh hr;clear hr
    go_wp2_with fail
    refine(Zd7 _ ⟨false,x.key,x.tx,x.nth⟩).mono ?_;rintro e w1 ⟨rfl,hu1⟩;have bo1:=bo.upd hu1 id;have g1:=bo1.cell 1;simp only[Qz,Qs]at g1;have hown2:=Zj hown1 hu1 (fun _ _=>id);have hz1:=(uA.trans hu1).size;have hz0:=hu.size;have Hu1:=Qh ((hu.trans uA).trans hu1);clear hown1 uA hu1
    go_wp2_with (at_builtin;refine Zc6 rfl rfl Zp (v:= .slice A5 xs.length c5) (cells:=[.int .i64 x.key]) (by rfl) rfl hown2 rfl rfl (by omega) (by omega) (by omega) ?_;intro g' c' w2 hown3 hu3 hg3 hlt3)
    go_roundg (gk-1)
    case measure=>omega
    case rel=>
     refine⟨k+1,some ⟨g',0,none⟩,c',xs++[x.key],by omega,by go_num,by simp,Qh (by rw[HS.out,hxs.out]),by simp;omega,by simpa using hown3,Hu1.out.then_ hu3 fun i e=> ?_⟩;exact .inr (hown2.lt i e).1
   ·rw[hr]at q0 uA bo hown1;have HS:=Qh (ZeS hlt X.out hr);have Hr:=Qh hr;clear hr
    go_wp2_with fail
    refine(Zd7 _ ⟨true,x.key,x.tx,x.nth⟩).mono ?_;rintro e w1 ⟨rfl,hu1⟩;have Hu1:=Qh ((hu.trans uA).trans hu1);have hown2:=Zj hown1 hu1 (fun _ _=>id);clear hown1 uA hu1;go_wp2
    go_roundg (gk-1)
    case measure=>omega
    case rel=>exact⟨k+1,A5,c5,xs,by omega,by go_num,rfl,Qh (by rw[HS.out,hxs.out]),by omega,hown2,Hu1.out⟩
  ·obtain rfl:k=l.length:=by omega
   have Hx:=Qh (show xs=ZF l fun o=> !o.read by rw[hxs.out,List.take_length]);clear hxs;have hsl:=Qh (ZcJ xs);have Hk:=Qh (show Lib.compact (ZI xs)=ZS l by rw[Zdg,Hx.out];rfl)
   go_wp2_with fail
   refine(ZfO _ _ A5 c5 xs hown (by omega)).mono ?_;rintro e w1 ⟨rfl,ho1,hu1⟩;have ho1':w1.ownsRow w.heap.size 3 1 (.slice A5 (ZI xs).length c5) (ZI xs).length ((ZI xs).map (Value.int .i64)):=by rw[hsl.out];exact ho1
   have hic:=Zfz w1 w.heap.size A5 c5 (ZI xs) ho1' (by rw[hsl.out];omega);rw[Hk.out,hsl.out]at hic;have Hic:=Qh hic;have hge:=Qh (show∀i,Own (.slice A5 xs.length c5) i→w.heap.size≤i from fun i e=>(hown.lt i e).1);clear hic ho1 ho1' hown
   go_wp2_with fail
   refine(Hic.out).mono ?_;rintro e w2 ⟨rfl,ho2,hu2⟩;go_wp2
   go_ret
   exact⟨A5,c5,rfl,ho2,(hu.then_ hu1 fun i e=> .inr (hge.out i e)).then_ hu2 fun i e=> .inr (hge.out i e)⟩
set_option maxRecDepth 100000 in
theorem ZfK (F:Nat→Prop) (w:World) (i0:Int) (dn:Bool) (A:Option Addr) (c:Nat) (l:List HOp) (h:HOps F w A l) (hl:Zd l.length):
  Calls Try.prog 58 #[.agg #[.int .i64 i0,.bool dn,.slice A l.length c]] w (Z4 w (ZS l)):=by
 have h1:=h.upd ((Upd.refl No w).alloc (.cells #[.int .i64 i0,.bool dn,.slice A l.length c] 35)) (fun _ _=>id)
 go_enter Try.func58,Try.ntmps58
 go_wp2_with fail
 refine(ZgU F _ i0 dn A c l h1 hl).mono ?_;rintro e w1 ⟨A1,c1,rfl,ho,hu⟩;go_wp2
 go_ret
 exact⟨A1,c1,rfl,Z8 ho (by simp),((Upd.refl No w).alloc _).trans hu⟩
end
end Go.Proofs.Ytblplapkdmhikaa
