/- Orders: the first order that goes along all edges, in plain words; what is kept while ids are taken one by one. -/
import Derived.Test.YtonblekdfinpkaaGreatWran
import Derived.Test.YtonblekdfinpkaaGreatWrbh
namespace Go.Proofs.YtonblekdfinpkaaGreat
set_option linter.unusedVariables false
set_option linter.unusedSimpArgs false
section
open Go.RowKit
def ZnC (l:List Edge) (left:List Int) (x:Int):Bool:=l.all fun e=> !(decide (e.t=x)&&decide (e.f∈left))
def Zb0 (l:List Edge) (L:List Int) (x:Int):Nat:=(l.filter fun e=>decide (e.t=x)&&decide (e.f∈L)).length
def ZeJ (l:List Edge) (ids:List Int) (a:Int):List Int:=(l.filter fun e=>decide (e.f=a)&&(decide (e.f∈ids)&&decide (e.t∈ids))).map (·.t)
theorem ZlA (l:List Edge) (L:List Int) (x:Int):ZnC l L x=(Zb0 l L x==0):=by
 rw[Bool.eq_iff_iff];unfold ZnC Zb0;simp only[List.all_eq_true,beq_iff_eq,List.length_eq_zero_iff,List.filter_eq_nil_iff]
 grind
theorem Zkf (e:Edge) (l:List Edge) (L:List Int) (x:Int):Zb0 (e::l) L x=(if e.t=x∧e.f∈L then 1 else 0)+Zb0 l L x:=by
 unfold Zb0
 by_cases h:e.t=x∧e.f∈L
 ·rw[if_pos h,List.filter_cons_of_pos (by simpa using h),List.length_cons];omega
 ·rw[if_neg h,List.filter_cons_of_neg (by simpa using h)];omega
theorem Znp (e:Edge) (l:List Edge) (ids:List Int) (a:Int):ZeJ (e::l) ids a=(if e.f=a∧e.f∈ids∧e.t∈ids then [e.t] else [])++ZeJ l ids a:=by
 unfold ZeJ
 by_cases h:e.f=a∧e.f∈ids∧e.t∈ids
 ·rw[if_pos h,List.filter_cons_of_pos (by simpa using h)];rfl
 ·rw[if_neg h,List.filter_cons_of_neg (by simpa using h)];rfl
theorem Zke (ids L:List Int) (m x:Int) (hm:m∈L) (hd:L.Nodup) (hi:m∈ids) (hx:x∈ids):∀l:List Edge,Zb0 l L x=Zb0 l (L.erase m) x+(ZeJ l ids m).count x
 |[]=>rfl
 |e::l=>by
  have ih:=Zke ids L m x hm hd hi hx l;rw[Zkf,Zkf,Znp,List.count_append,ih];have he:e.f∈L.erase m↔e.f≠m∧e.f∈L:=hd.mem_erase_iff
  by_cases h1:e.t=x
  ·subst h1
   by_cases h2:e.f=m
   ·rw[if_pos ⟨rfl,by rw[h2];exact hm⟩,if_neg (by rw[he];exact fun h=>h.2.1 h2),if_pos ⟨h2,by rw[h2];exact hi,hx⟩];simp;omega
   ·rw[if_neg (c:=e.f=m∧_) (fun h=>h2 h.1)]
    by_cases h3:e.f∈L
    ·rw[if_pos ⟨rfl,h3⟩,if_pos ⟨rfl,he.2 ⟨h2,h3⟩⟩];simp;omega
    ·rw[if_neg (fun h=>h3 h.2),if_neg (fun h=>h3 (he.1 h.2).2)];simp
  ·rw[if_neg (fun h=>h1 h.1),if_neg (fun h=>h1 h.1)]
   split
   ·rw[show[e.t].count x=0 by rw[List.count_singleton];simp[h1]];omega
   ·simp
theorem ZqI (l:List Edge) (ids:List Int) (a x:Int) (h:x∈ZeJ l ids a):x∈ids:=by
 unfold ZeJ at h;obtain⟨e,he,rfl⟩:=List.mem_map.1 h;rw[List.mem_filter]at he;simp only[Bool.and_eq_true,decide_eq_true_eq]at he;exact he.2.2.2
structure TpI (l:List Edge) (ids L nx ys:List Int) (g:Int→Int):Prop where
 rise:L.Pairwise (·<·)
 sub:∀x∈L,x∈ids
 cnt:∀x∈ids,g x=1+((Zb0 l L x+nx.count x:Nat):Int)
 heap:ys.Perm (L.filter fun x=>Zb0 l L x+nx.count x==0)
 gone:∀x∈ids,x∉L→Zb0 l L x+nx.count x=0
 nxs:∀x∈nx,x∈ids
theorem TpI.mem {l:List Edge} {ids L nx ys:List Int} {g:Int→Int} (h:TpI l ids L nx ys g) (x:Int):x∈ys↔x∈L∧Zb0 l L x+nx.count x=0:=by
 rw[h.heap.mem_iff,List.mem_filter,beq_iff_eq]
theorem TpI.nodup {l:List Edge} {ids L nx ys:List Int} {g:Int→Int} (h:TpI l ids L nx ys g):ys.Nodup:=h.heap.nodup_iff.2 ((Zd1 h.rise).filter _)
theorem TpI.step {l:List Edge} {ids L nx ys:List Int} {x:Int} {g:Int→Int} (h:TpI l ids L (x::nx) ys g):
  TpI l ids L nx (if g x-1=1 then ys++[x] else ys) (fun y=>if y=x then g x-1 else g y):=by
 have hx:=h.nxs x (List.mem_cons_self ..);have hgx:=h.cnt x hx;rw[List.count_cons_self]at hgx
 have hxL:x∈L:=Classical.byContradiction fun hn=>by
  have:=h.gone x hx hn;rw[List.count_cons_self]at this;omega
 have hco:∀y,y≠x→(x::nx).count y=nx.count y:=fun y hy=>List.count_cons_of_ne (Ne.symm hy)
 have hxn:x∉ys:=fun hm=>by
  have:=((h.mem x).1 hm).2;rw[List.count_cons_self]at this;omega
 refine⟨h.rise,h.sub,fun y hy=> ?_,?_,fun y hy hn=> ?_,fun y hy=>h.nxs y (List.mem_cons_of_mem _ hy)⟩
 ·by_cases e:y=x
  ·subst e;rw[if_pos rfl];omega
  ·rw[if_neg e,h.cnt y hy,hco y e]
 ·have hnd:(L.filter fun y=>Zb0 l L y+nx.count y==0).Nodup:=(Zd1 h.rise).filter _
  split
  ·rename_i he
   refine(List.perm_ext_iff_of_nodup ?_ hnd).2 fun y=> ?_
   ·rw[List.nodup_append];exact⟨h.nodup,by simp,fun a ha b hb=>by rw[List.mem_singleton]at hb;subst hb;exact fun e=>hxn (e▸ha)⟩
   ·rw[List.mem_append,List.mem_singleton,h.mem,List.mem_filter,beq_iff_eq]
    by_cases e:y=x
    ·subst e
     constructor
     ·intro _;exact⟨hxL,by omega⟩
     ·intro _;exact Or.inr rfl
    ·rw[hco y e];simp[e]
  ·rename_i he
   refine(List.perm_ext_iff_of_nodup h.nodup hnd).2 fun y=> ?_
   rw[h.mem,List.mem_filter,beq_iff_eq]
   by_cases e:y=x
   ·subst e;rw[List.count_cons_self]
    constructor
    ·rintro⟨_,h2⟩;omega
    ·rintro⟨_,h2⟩;omega
   ·rw[hco y e]
 ·have:=h.gone y hy hn
  by_cases e:y=x
  ·subst e;exact absurd hxL hn
  ·rw[hco y e]at this;exact this
theorem Znt {L:List Int} {p:Int→Bool} {m:Int} (hr:L.Pairwise (·<·)) (hm:m∈L) (hp:p m=true) (hl:∀y∈L,p y=true→m≤y):L.find? p=some m:=by
 cases hf:L.find? p with
 |none=>rw[List.find?_eq_none]at hf;exact absurd hp (hf m hm)
 |some x=>
  have hx:=List.find?_some hf;have hxm:=List.mem_of_find?_eq_some hf;have h1:=hl x hxm hx;rw[List.find?_eq_some_iff_append]at hf;obtain⟨_,l1,l2,rfl,hl1⟩:=hf;rcases List.mem_append.1 hm with h2|h2
  ·have:=hl1 m h2;rw[hp]at this;simp at this
  ·rcases List.mem_cons.1 h2 with rfl|h2
   ·rfl
   ·have:=(List.pairwise_cons.1 (List.pairwise_append.1 hr).2.1).1 m h2;omega
theorem TpI.find {l:List Edge} {ids L ys:List Int} {g:Int→Int} (h:TpI l ids L [] ys g) {m:Int} (hm:m∈ys) (hl:∀y∈ys,m≤y):L.find? (ZnC l L)=some m:=by
 have h1:=(h.mem m).1 hm;refine Znt h.rise h1.1 (by rw[ZlA];simpa using h1.2) fun y hy hp=>hl y ((h.mem y).2 ⟨hy,by rw[ZlA]at hp;simpa using hp⟩)
theorem TpI.pop {l:List Edge} {ids L xs ys:List Int} {g:Int→Int} {m:Int} (h:TpI l ids L [] xs g) (hp:(ys++[m]).Perm xs):TpI l ids (L.erase m) (ZeJ l ids m) ys g:=by
 have hmx:m∈xs:=hp.mem_iff.1 (by simp);have hmL:=(h.mem m).1 hmx;have hnd:=Zd1 h.rise;have hmi:=h.sub m hmL.1;have hs:∀x∈ids,Zb0 l L x=Zb0 l (L.erase m) x+(ZeJ l ids m).count x:=fun x hx=>Zke ids L m x hmL.1 hnd hmi hx l
 have hyn:(ys++[m]).Nodup:=hp.nodup_iff.2 h.nodup;refine⟨h.rise.sublist List.erase_sublist,fun x hx=>h.sub x (List.mem_of_mem_erase hx),fun x hx=> ?_,?_,fun x hx hn=> ?_,fun x hx=>ZqI l ids m x hx⟩
 ·rw[h.cnt x hx,←hs x hx];simp
 ·refine(List.perm_ext_iff_of_nodup (List.nodup_append.1 hyn).1 ((hnd.erase m).filter _)).2 fun x=> ?_
  rw[List.mem_filter,beq_iff_eq,hnd.mem_erase_iff];have h1:x∈xs↔x∈ys∨x=m:=by rw[←hp.mem_iff,List.mem_append,List.mem_singleton]
  have h2:=h.mem x;have h3:m∉ys:=fun hm=>(List.nodup_append.1 hyn).2.2 m hm m (by simp) rfl
  constructor
  ·intro hx;have h4:=h2.1 (h1.2 (Or.inl hx));refine⟨⟨fun e=>h3 (e▸hx),h4.1⟩,?_⟩;rw[←hs x (h.sub x h4.1)];simpa using h4.2
  ·rintro⟨⟨h4,h5⟩,h6⟩;rw[←hs x (h.sub x h5)]at h6;rcases h1.1 (h2.2 ⟨h5,by simpa using h6⟩)with h7|h7
   ·exact h7
   ·exact absurd h7 h4
 ·rw[←hs x hx];rw[hnd.mem_erase_iff]at hn
  by_cases e:x=m
  ·subst e;simpa using hmL.2
  ·simpa using h.gone x hx (fun h=>hn ⟨e,h⟩)
theorem TpI.start {l:List Edge} {ids L xs:List Int} {g:Int→Int} (hL:L.Pairwise (·<·)) (hm:∀x,x∈L↔x∈ids) (hg:∀x∈ids,g x=1+((Zb0 l ids x:Nat):Int)) (hx:xs.Perm (L.filter fun x=>g x==1)):TpI l ids L [] xs g:=by
 have hc:∀x,Zb0 l L x=Zb0 l ids x:=fun x=>by unfold Zb0;simp only[hm]
 refine⟨hL,fun x hx=>(hm x).1 hx,fun x hx=>by rw[hg x hx,hc];simp,?_,fun x hx hn=>absurd ((hm x).2 hx) hn,fun _ h=>by cases h⟩
 have:(L.filter fun x=>Zb0 l L x+([]:List Int).count x==0)=L.filter fun x=>g x==1:=List.filter_congr fun x hx=>by
  rw[hg x ((hm x).1 hx),hc,Bool.eq_iff_iff,beq_iff_eq,beq_iff_eq,List.count_nil];omega
 rw[this];exact hx
end
/- Looking at a history:who is done;which version is the last one;who is next. -/
section
open Go.RowKit
def ZiU (w:World) (o:Option HTx) (e:Ending) (w':World):Prop:=
 (match o with
  |some t=>∃A c,e= .returned (.tuple #[.agg #[.int .i64 t.id,.bool t.done,.slice A t.ops.length c],.bool t.done])∧t.ops.length≤c∧HOps (fun i=>w.heap.size≤i) w' A t.ops
  |none=>e= .returned (.tuple #[.agg #[.int .i64 0,.bool false,.slice none 0 0],.bool false]))∧Upd No w w'
set_option maxRecDepth 100000 in
set_option maxHeartbeats 2000000 in
theorem ZuZ (F:Nat→Prop) (w:World) (txs:List HTx) (ords:List HOrd) (A:Option Addr) (c:Nat) (B:Option Addr) (d:Nat) (i:Int) (H:Hist.lies F w ⟨txs,ords,A,c,B,d⟩):
  Calls Tryz.prog 133 #[.agg #[.slice A txs.length c,.slice B ords.length d],.int .i64 i] w (ZiU w (Zp txs i)):=by
 have u0:=((Upd.refl No w).alloc (.cells #[.slice A txs.length c,.slice B ords.length d] 117)).alloc (.cells #[.int .i64 0,.bool false,.slice none 0 0] 85);have b1:=Blk.new (w.alloc (.cells #[.slice A txs.length c,.slice B ords.length d] 117)) 85 [.int .i64 0,.bool false,.slice none 0 0];simp only[World.size_alloc]at b1;have B1:=Qh b1;have HH:=Qh (H.upd u0 (fun _ _=>id));clear b1
 cases hf:Zp txs i with
 |none=>
  have Hf:=Qh hf;clear hf
  go_enter Tryz.func133,Tryz.ntmps133
  go_wp2_with fail
  refine(Zd2 F _ txs ords A c B d i HH.out Hf.out).mono ?_;rintro e w1 ⟨rfl,hu1⟩;have bt:=Blk.new w1 85 [.int .i64 0,.bool false,.slice none 0 0];have bz:=B1.out.upd hu1 id;have bs:=Blk.new (((w1.setCell ⟨w.heap.size+1,0,none⟩ (.int .i64 0)).setCell ⟨w.heap.size+1,1,none⟩ (.bool false)).setCell ⟨w.heap.size+1,2,none⟩ (.slice none 0 0)) 85 [.int .i64 0,.bool false,.slice none 0 0];simp only[World.size_setCell]at bs;have b3:=((((bz.set_ 0 (.int .i64 0)).set_ 1 (.bool false)).set_ 2 (.slice none 0 0)).alloc (.cells #[.int .i64 0,.bool false,.slice none 0 0] 85)).drew;simp only[List.set_cons_zero,List.set_cons_succ]at b3;have k0:=bt.cell 0;have k1:=bt.cell 1;have k2:=bt.cell 2;have s0:=bs.cell 0;have s1:=bs.cell 1;have s2:=bs.cell 2;have z0:=bz.cell 0;have z1:=bz.cell 1;have z2:=bz.cell 2;have f0:=bz.free 0;have f1:=bz.free 1;have f2:=bz.free 2;simp only[Qz,Qs]at k0 k1 k2 s0 s1 s2 z0 z1 z2;have B3:=Qh b3;have hz:w.heap.size+1<w1.heap.size:=bz.lt;have U3:=Qh ((((((u0.trans hu1).setCell (p:=⟨w.heap.size+1,0,none⟩) (.inr (Nat.le_succ _)) (.int .i64 0)).setCell (p:=⟨w.heap.size+1,1,none⟩) (.inr (Nat.le_succ _)) (.bool false)).setCell (p:=⟨w.heap.size+1,2,none⟩) (.inr (Nat.le_succ _)) (.slice none 0 0)).alloc (.cells #[.int .i64 0,.bool false,.slice none 0 0] 85)).drew);have V3:=Qh ((((((Upd.refl (One (w.heap.size+1)) w1).setOne 0 (.int .i64 0)).setOne 1 (.bool false)).setOne 2 (.slice none 0 0)).alloc (.cells #[.int .i64 0,.bool false,.slice none 0 0] 85)).drew)
  clear bt bz bs b3;go_wp2;refine wp_region_noPanic ?_;refine wp_region_held_drew (S:=(fun w'=>w'.cell? ⟨w1.heap.size,0,none⟩=some (.int .i64 0)∧w'.cell? ⟨w1.heap.size,1,none⟩=some (.bool false)∧w'.cell? ⟨w1.heap.size,2,none⟩=some (.slice none 0 0))) (by kernel_rfl) ?_ (fun hHeld=> ?_)
  ·(first|exact⟨k0,k1,k2⟩|exact⟨s0,s1,s2⟩)
  refine wpK 0 rfl ?_;refine wpK 1 rfl ?_;refine wpK 2 rfl ?_;refine wpN 3 rfl ?_;refine wpN 4 rfl ?_;refine wpK 5 rfl ?_;refine wpR [6] ?_;refine wpC rfl (fun K hK=> ?_) AllReadyH.nil;go_simp;refine hK.out _ _ ?_ (fun hHeld=> ?_)
  ·(first|exact⟨k0,k1,k2⟩|exact⟨s0,s1,s2⟩)
  clear hK K
  try simp only[Act.put,sT,sS,sZ]
  refine wpK 7 rfl ?_;refine wpD (NoPanic.normal ?_);clear hHeld k0 k1 k2 s0 s1 s2 z0 z1 z2 f0 f1 f2;go_wp2;have r0:=B3.out.cell 0;have r1:=B3.out.cell 1;have r2:=B3.out.cell 2;simp only[Qz,Qs]at r0 r1 r2;refine bodyPost_ret (v:= .tuple #[.agg #[.int .i64 0,.bool false,.slice none 0 0],.bool false]) (by simp[results,Tryz.results133,go_sem,r0,r1,r2]) rfl ?_;unfold ZiU;exact⟨rfl,U3.out⟩
 |some t=>
  have Hf:=Qh hf;clear hf
  go_enter Tryz.func133,Tryz.ntmps133
  go_wp2_with fail
  refine(Zct F _ txs ords A c B d i HH.out Hf.out).mono ?_;rintro e w1 ⟨A1,c1,rfl,hc1,hh1,hu1⟩;have Hh1:=Qh hh1;clear hh1;obtain⟨td,htd⟩:∃td,t.done=td:=⟨_,rfl⟩;have Htd:=Qh htd;rw[htd];clear htd
  cases td
  ·have bt:=Blk.new w1 85 [.int .i64 t.id,.bool false,.slice A1 t.ops.length c1];have bz:=B1.out.upd hu1 id;have bs:=Blk.new (((w1.setCell ⟨w.heap.size+1,0,none⟩ (.int .i64 t.id)).setCell ⟨w.heap.size+1,1,none⟩ (.bool false)).setCell ⟨w.heap.size+1,2,none⟩ (.slice A1 t.ops.length c1)) 85 [.int .i64 t.id,.bool false,.slice A1 t.ops.length c1];simp only[World.size_setCell]at bs;have b3:=((((bz.set_ 0 (.int .i64 t.id)).set_ 1 (.bool false)).set_ 2 (.slice A1 t.ops.length c1)).alloc (.cells #[.int .i64 t.id,.bool false,.slice A1 t.ops.length c1] 85)).drew;simp only[List.set_cons_zero,List.set_cons_succ]at b3;have k0:=bt.cell 0;have k1:=bt.cell 1;have k2:=bt.cell 2;have s0:=bs.cell 0;have s1:=bs.cell 1;have s2:=bs.cell 2;have z0:=bz.cell 0;have z1:=bz.cell 1;have z2:=bz.cell 2;have f0:=bz.free 0;have f1:=bz.free 1;have f2:=bz.free 2;simp only[Qz,Qs]at k0 k1 k2 s0 s1 s2 z0 z1 z2;have B3:=Qh b3;have hz:w.heap.size+1<w1.heap.size:=bz.lt;have U3:=Qh ((((((u0.trans hu1).setCell (p:=⟨w.heap.size+1,0,none⟩) (.inr (Nat.le_succ _)) (.int .i64 t.id)).setCell (p:=⟨w.heap.size+1,1,none⟩) (.inr (Nat.le_succ _)) (.bool false)).setCell (p:=⟨w.heap.size+1,2,none⟩) (.inr (Nat.le_succ _)) (.slice A1 t.ops.length c1)).alloc (.cells #[.int .i64 t.id,.bool false,.slice A1 t.ops.length c1] 85)).drew);have V3:=Qh ((((((Upd.refl (One (w.heap.size+1)) w1).setOne 0 (.int .i64 t.id)).setOne 1 (.bool false)).setOne 2 (.slice A1 t.ops.length c1)).alloc (.cells #[.int .i64 t.id,.bool false,.slice A1 t.ops.length c1] 85)).drew)
   clear bt bz bs b3;go_wp2;refine wp_region_noPanic ?_;refine wp_region_held_drew (S:=(fun w'=>w'.cell? ⟨w1.heap.size,0,none⟩=some (.int .i64 t.id)∧w'.cell? ⟨w1.heap.size,1,none⟩=some (.bool false)∧w'.cell? ⟨w1.heap.size,2,none⟩=some (.slice A1 t.ops.length c1))) (by kernel_rfl) ?_ (fun hHeld=> ?_)
   ·(first|exact⟨k0,k1,k2⟩|exact⟨s0,s1,s2⟩)
   refine wpK 0 rfl ?_;refine wpK 1 rfl ?_;refine wpK 2 rfl ?_;refine wpK 3 rfl ?_;refine wpK 4 rfl ?_;refine wpK 5 rfl ?_;refine wpR [6] ?_;refine wpC rfl (fun K hK=> ?_) AllReadyH.nil;go_simp;refine hK.out _ _ ?_ (fun hHeld=> ?_)
   ·(first|exact⟨k0,k1,k2⟩|exact⟨s0,s1,s2⟩)
   clear hK K
   try simp only[Act.put,sT,sS,sZ]
   refine wpK 7 rfl ?_;refine wpD (NoPanic.normal ?_);clear hHeld k0 k1 k2 s0 s1 s2 z0 z1 z2 f0 f1 f2;go_wp2;have r0:=B3.out.cell 0;have r1:=B3.out.cell 1;have r2:=B3.out.cell 2;simp only[Qz,Qs]at r0 r1 r2;refine bodyPost_ret (v:= .tuple #[.agg #[.int .i64 t.id,.bool false,.slice A1 t.ops.length c1],.bool false]) (by simp[results,Tryz.results133,go_sem,r0,r1,r2]) rfl ?_;unfold ZiU;have hh3:=Hh1.out;simp only[World.size_alloc]at hh3;exact⟨⟨A1,c1,by rw[Htd.out],hc1,(Recs.upd hh3 V3.out (fun i hi e=>by cases e;omega)).weak (fun i _ e=>by omega)⟩,U3.out⟩
  ·have bt:=Blk.new w1 85 [.int .i64 t.id,.bool true,.slice A1 t.ops.length c1];have bz:=B1.out.upd hu1 id;have bs:=Blk.new (((w1.setCell ⟨w.heap.size+1,0,none⟩ (.int .i64 t.id)).setCell ⟨w.heap.size+1,1,none⟩ (.bool true)).setCell ⟨w.heap.size+1,2,none⟩ (.slice A1 t.ops.length c1)) 85 [.int .i64 t.id,.bool true,.slice A1 t.ops.length c1];simp only[World.size_setCell]at bs;have b3:=((((bz.set_ 0 (.int .i64 t.id)).set_ 1 (.bool true)).set_ 2 (.slice A1 t.ops.length c1)).alloc (.cells #[.int .i64 t.id,.bool true,.slice A1 t.ops.length c1] 85)).drew;simp only[List.set_cons_zero,List.set_cons_succ]at b3;have k0:=bt.cell 0;have k1:=bt.cell 1;have k2:=bt.cell 2;have s0:=bs.cell 0;have s1:=bs.cell 1;have s2:=bs.cell 2;have z0:=bz.cell 0;have z1:=bz.cell 1;have z2:=bz.cell 2;have f0:=bz.free 0;have f1:=bz.free 1;have f2:=bz.free 2;simp only[Qz,Qs]at k0 k1 k2 s0 s1 s2 z0 z1 z2;have B3:=Qh b3;have hz:w.heap.size+1<w1.heap.size:=bz.lt;have U3:=Qh ((((((u0.trans hu1).setCell (p:=⟨w.heap.size+1,0,none⟩) (.inr (Nat.le_succ _)) (.int .i64 t.id)).setCell (p:=⟨w.heap.size+1,1,none⟩) (.inr (Nat.le_succ _)) (.bool true)).setCell (p:=⟨w.heap.size+1,2,none⟩) (.inr (Nat.le_succ _)) (.slice A1 t.ops.length c1)).alloc (.cells #[.int .i64 t.id,.bool true,.slice A1 t.ops.length c1] 85)).drew);have V3:=Qh ((((((Upd.refl (One (w.heap.size+1)) w1).setOne 0 (.int .i64 t.id)).setOne 1 (.bool true)).setOne 2 (.slice A1 t.ops.length c1)).alloc (.cells #[.int .i64 t.id,.bool true,.slice A1 t.ops.length c1] 85)).drew)
   clear bt bz bs b3;go_wp2;refine wp_region_noPanic ?_;refine wp_region_held_drew (S:=(fun w'=>w'.cell? ⟨w1.heap.size,0,none⟩=some (.int .i64 t.id)∧w'.cell? ⟨w1.heap.size,1,none⟩=some (.bool true)∧w'.cell? ⟨w1.heap.size,2,none⟩=some (.slice A1 t.ops.length c1))) (by kernel_rfl) ?_ (fun hHeld=> ?_)
   ·(first|exact⟨k0,k1,k2⟩|exact⟨s0,s1,s2⟩)
   refine wpK 0 rfl ?_;refine wpK 1 rfl ?_;refine wpK 2 rfl ?_;refine wpK 3 rfl ?_;refine wpK 4 rfl ?_;refine wpK 5 rfl ?_;refine wpR [6] ?_;refine wpC rfl (fun K hK=> ?_) AllReadyH.nil;go_simp;refine hK.out _ _ ?_ (fun hHeld=> ?_)
   ·(first|exact⟨k0,k1,k2⟩|exact⟨s0,s1,s2⟩)
   clear hK K
   try simp only[Act.put,sT,sS,sZ]
   refine wpK 7 rfl ?_;refine wpD (NoPanic.normal ?_);clear hHeld k0 k1 k2 s0 s1 s2 z0 z1 z2 f0 f1 f2;go_wp2;have r0:=B3.out.cell 0;have r1:=B3.out.cell 1;have r2:=B3.out.cell 2;simp only[Qz,Qs]at r0 r1 r2;refine bodyPost_ret (v:= .tuple #[.agg #[.int .i64 t.id,.bool true,.slice A1 t.ops.length c1],.bool true]) (by simp[results,Tryz.results133,go_sem,r0,r1,r2]) rfl ?_;unfold ZiU;have hh3:=Hh1.out;simp only[World.size_alloc]at hh3;exact⟨⟨A1,c1,by rw[Htd.out],hc1,(Recs.upd hh3 V3.out (fun i hi e=>by cases e;omega)).weak (fun i _ e=>by omega)⟩,U3.out⟩
theorem ZnS {txs:List HTx} {i:Int} (h:Zp txs i=none):Zk txs i=none:=by unfold Zk;rw[h]
theorem Zpz {txs:List HTx} {i:Int} {t:HTx} (h:Zp txs i=some t) (hd:t.done=false):Zk txs i=none:=by unfold Zk;rw[h];simp[hd]
theorem Zpy {txs:List HTx} {i:Int} {t:HTx} (h:Zp txs i=some t) (hd:t.done=true):Zk txs i=some t:=by unfold Zk;rw[h];simp[hd]
def ZrZ (w:World) (o:Option HTx) (e:Ending) (w':World):Prop:=
 ∃(x:Int) (b dn:Bool) (A:Option Addr) (l:List HOp) (c:Nat),e= .returned (.tuple #[.agg #[.int .i64 x,.bool dn,.slice A l.length c],.bool b])∧l.length≤c∧Zq l.length∧HOps (fun i=>w.heap.size≤i) w' A l∧
  (match o with|some t=>b=true∧x=t.id∧l=t.ops|none=>b=false)∧Upd No w w'
theorem Zn1 (F:Nat→Prop) (w:World) (txs:List HTx) (ords:List HOrd) (A:Option Addr) (c:Nat) (B:Option Addr) (d:Nat) (i:Int) (H:Hist.lies F w ⟨txs,ords,A,c,B,d⟩):
  Calls Tryz.prog 133 #[.agg #[.slice A txs.length c,.slice B ords.length d],.int .i64 i] w (ZrZ w (Zk txs i)):=by
 refine(ZuZ F w txs ords A c B d i H).mono ?_;intro e w' h;unfold ZiU at h;unfold ZrZ
 cases hf:Zp txs i with
 |none=>
  rw[hf]at h;rw[ZnS hf];exact⟨0,false,false,none,[],0,h.1,Nat.le_refl _,by unfold Zq;simp,fun h=>absurd rfl h,rfl,h.2⟩
 |some t=>
  rw[hf]at h;obtain⟨⟨A',c',h1,h2,h3⟩,h4⟩:=h;have hfew:=(H.tx t (Zc7 hf)).2.2.1
  cases hd:t.done
  ·rw[Zpz hf hd];rw[hd]at h1;exact⟨_,_,_,A',t.ops,c',h1,h2,hfew,h3,rfl,h4⟩
  ·rw[Zpy hf hd];rw[hd]at h1;exact⟨_,_,_,A',t.ops,c',h1,h2,hfew,h3,⟨rfl,rfl,rfl⟩,h4⟩
end
/- Edges,reads and witnesses by the document,in plain words;for right histories they are what the program tells. -/
section
open Go.RowKit
section
variable {h:Hist}
theorem Zh3 (hr:Zb h=true) {i:Nat} (hi:i<h.txs.length):ZeT h.txs i=true:=by
 unfold Zb at hr;simp only[Bool.and_eq_true,List.all_eq_true,List.mem_range]at hr;exact hr.1.1.2 i hi
theorem Zdd (hr:Zb h=true):(h.txs.map (·.id)).Pairwise (·<·):=Zmw fun j hj=>by
 rw[List.length_map]at hj;have:=Zh3 hr hj;unfold ZeT at this;rw[Qg hj]at this;simp only[Bool.and_eq_true]at this;have h1:=this.1.1;simp only[Qg (show j<h.txs.length by omega),decide_eq_true_eq]at h1;rw[List.getD_eq_getElem?_getD,List.getD_eq_getElem?_getD,List.getElem?_map,List.getElem?_map,Qg hj,Qg (show j<h.txs.length by omega)];exact h1
theorem Zfv (hr:Zb h=true) {t:HTx} (ht:t∈h.txs):Zp h.txs t.id=some t:=by
 obtain⟨k,hk,rfl⟩:=List.mem_iff_getElem.1 ht;have hp:=List.pairwise_iff_getElem.1 (Zdd hr);refine ZiB hk (fun j hj=> ?_) (by simp);have:=hp j k (by simp;omega) (by simpa using hk) hj;simp only[List.getElem_map]at this;rw[beq_eq_false_iff_ne];omega
theorem Zc6 {txs:List HTx} {i:Int} {t:HTx} (hf:Zp txs i=some t):t∈txs∧t.id=i:=by
 refine⟨Zc7 hf,?_⟩;unfold Zp at hf;have:=List.find?_some hf
 simpa using this
theorem ZdB (hr:Zb h=true) {t:HTx} (ht:t∈h.txs):ZaQ t.id t.ops=0∧Zb4 h.txs t.id t.ops=true:=by
 obtain⟨k,hk,rfl⟩:=List.mem_iff_getElem.1 ht;have:=Zh3 hr hk;unfold ZeT at this;rw[Qg hk]at this;simp only[Bool.and_eq_true,beq_iff_eq]at this;exact⟨this.1.2,this.2⟩
theorem Zhg (hr:Zb h=true) {t:HTx} (ht:t∈h.txs):1≤t.id:=by
 have:=(ZdB hr ht).1;unfold ZaQ at this
 split at this
 ·cases this
 ·rename_i hid
  unfold idB at hid;simp at hid;exact hid.1
theorem ZjK (id:Int) (l:List HOp):∀k,k≤l.length→∀j (hj:j<k) (hl:j<l.length),ZcH id l[j]=true→Zw l[j]∈ZaC id l k
 |0,_,j,hj,_,_=>by omega
 |k+1,hk,j,hj,hl,hn=>by
  have ih:=ZjK id l k (by omega)
  show Zw l[j]∈(match l[k]? with|some o=>_|none=>_)
  rw[Qg (show k<l.length by omega)]
  by_cases e:j=k
  ·subst e;simp only[hn,Bool.true_and]
   by_cases hc:Zw l[j]∈ZaC id l j
   ·simp[hc]
   ·simp[hc]
  ·have:=ih j (by omega) hl hn;simp only
   split
   ·exact List.mem_append_left _ this
   ·exact this
theorem ZoH (hr:Zb h=true) {t:HTx} (ht:t∈h.txs) {o:HOp} (ho:o∈t.ops) (hn:ZcH t.id o=true):ZaI h.txs (Zw o)=true:=by
 have h1:=(ZdB hr ht).2;unfold Zb4 at h1;rw[List.all_eq_true]at h1;obtain⟨j,hj,rfl⟩:=List.mem_iff_getElem.1 ho;exact h1 _ (ZjK t.id t.ops _ (Nat.le_refl _) j hj hj hn)
theorem ZgZ (hr:Zb h=true) {t:HTx} (ht:t∈h.txs) {o:HOp} (ho:o∈t.ops) (hrd:o.read=true) (h0:o.tx≠0) (h1:o.tx≠t.id):∃u,Zp h.txs o.tx=some u:=by
 have hv:Zw o=⟨o.tx,o.key,o.nth⟩:=by unfold Zw;rw[if_pos hrd]
 have:=ZoH hr ht ho (by unfold ZcH;rw[hv];simp[hrd,h0,h1]);rw[hv]at this
 cases hf:Zp h.txs o.tx with
 |some u=>exact⟨u,rfl⟩
 |none=>
  unfold ZaI at this;simp[h0,hf]at this
end
/-! how often there is a reason for an edge -/
def p2 (f key:Int) (n:Nat) (o:HOp):Bool:=o.read&&o.key==key&&o.tx==f&&o.nth==(n:Int)
def p3 (h:Hist) (id key t:Int) (o:HOp):Bool:=o.read&&o.key==key&& !(o.tx==id)&&Zao h.txs ⟨o.tx,o.key,o.nth⟩&&Za0 h.ords key o.tx t
def Zax (h:Hist) (e:Edge):Nat:=
 match Zk h.txs e.f,Zk h.txs e.t with
 |some a,some b=>
  if e.f=e.t then 0
  else if e.k=1 then (if Za0 h.ords e.key e.f e.t then 1 else 0)
  else if e.k=2 then b.ops.countP (p2 e.f e.key (Z1 a.ops e.key))
  else if e.k=3 then a.ops.countP (p3 h a.id e.key e.t)
  else 0
 |_,_=>0
theorem Zbq {txs:List HTx} {i:Int} {t:HTx} (hd:Zk txs i=some t):Zp txs i=some t∧t.done=true:=by
 unfold Zk at hd
 split at hd
 ·split at hd
  ·rename_i u hf hu
   cases hd
   exact⟨hf,hu⟩
  ·cases hd
 ·cases hd
theorem ZiJ {α:Type} (p:α→Bool) (l:List α):decide (0<l.countP p)=l.any p:=by
 rw[Bool.eq_iff_iff,decide_eq_true_eq,List.countP_pos_iff,List.any_eq_true]
theorem ZgD {α:Type} {p q:α→Bool}:∀{l:List α},(∀x∈l,p x=q x)→l.any p=l.any q
 |[],_=>rfl
 |a::l,h=>by
  rw[List.any_cons,List.any_cons,h a (List.mem_cons_self ..),ZgD fun x hx=>h x (List.mem_cons_of_mem _ hx)]
theorem ZsP (c:Prop) [Decidable c] (a b:Nat):decide (0<(if c then a else b))=if c then decide (0<a) else decide (0<b):=by split<;>rfl
theorem ZlN {h:Hist} (hr:Zb h=true) (e:Edge):decide (0<Zax h e)=ZN h e:=by
 unfold Zax ZN
 cases hd1:Zk h.txs e.f with
 |none=>rfl
 |some a=>
  cases hd2:Zk h.txs e.t with
  |none=>rfl
  |some b=>
   simp only[ZsP];have ha:=Zc6 (Zbq hd1).1;have hb:=Zc6 (Zbq hd2).1
   by_cases h0:e.f=e.t
   ·rw[if_pos h0,if_pos h0];rfl
   ·rw[if_neg h0,if_neg h0]
    by_cases h1:e.k=1
    ·rw[if_pos h1,if_pos h1]
     cases Za0 h.ords e.key e.f e.t<;>rfl
    ·rw[if_neg h1,if_neg h1]
     by_cases h2:e.k=2
     ·rw[if_pos h2,if_pos h2,ZiJ];unfold Za3;refine ZgD fun o _=> ?_
      unfold p2
      cases hrd:o.read
      ·rfl
      ·have hv:Zw o=⟨o.tx,o.key,o.nth⟩:=by unfold Zw;rw[if_pos hrd]
       rw[hv]
       dsimp only
       by_cases hk:o.key=e.key
       ·by_cases ht:o.tx=e.f
        ·have h3:(o.tx==b.id)=false:=by rw[beq_eq_false_iff_ne,ht,hb.2];exact h0
         have hf0:e.f≠0:=by have:=Zhg hr ha.1;rw[ha.2]at this;omega
         have h4:Zao h.txs ⟨o.tx,o.key,o.nth⟩=(o.nth==(Z1 a.ops e.key:Int)):=by
          unfold Zao;simp only[ht,hd1,if_neg hf0,hk]
         rw[h3,h4];simp[hk,ht]
        ·have:(o.tx==e.f)=false:=by rw[beq_eq_false_iff_ne];exact ht
         simp[this]
       ·have:(o.key==e.key)=false:=by rw[beq_eq_false_iff_ne];exact hk
        simp[this]
     ·rw[if_neg h2,if_neg h2]
      by_cases h3:e.k=3
      ·rw[if_pos h3,if_pos h3,ZiJ];unfold Za3;refine ZgD fun o _=> ?_
       unfold p3
       cases hrd:o.read
       ·rfl
       ·have hv:Zw o=⟨o.tx,o.key,o.nth⟩:=by unfold Zw;rw[if_pos hrd]
        rw[hv];simp[Bool.and_assoc]
      ·rw[if_neg h3,if_neg h3];rfl
/-! bad reads -/
def Zdo (txs:List HTx) (t:HTx) (p:Int) (o:HOp):Bool:=
 t.done&&o.read&& !(o.tx==0)&& !(o.tx==t.id)&&(match Zp txs o.tx with|none=>false|some u=>if p=2 then !u.done else p==3&&decide (o.nth<(Z1 u.ops o.key:Int)))
def Zdn (txs:List HTx) (p:Int) (t:HTx) (i:Nat) (acc:List HBad):List HOp→List HBad
 |[]=>acc
 |o::l=>Zdn txs p t (i+1) (if Zdo txs t p o then acc++[⟨t.id,i,Zw o⟩] else acc) l
def ZdH (txs:List HTx) (p:Int) (acc:List HBad):List HTx→List HBad
 |[]=>acc
 |t::l=>ZdH txs p (Zdn txs p t 0 acc t.ops) l
def Z3 (h:Hist) (p:Int):List HBad:=if Zb h=true then ZdH h.txs p [] h.txs else []
theorem ZjR (txs:List HTx) (p:Int) (t:HTx) (b:HBad):∀(l:List HOp) (i:Nat) (acc:List HBad),b∈Zdn txs p t i acc l↔b∈acc∨∃(j:Nat) (o:HOp),l[j]? =some o∧Zdo txs t p o=true∧b=⟨t.id,((i+j:Nat):Int),Zw o⟩
 |[],i,acc=>by simp[Zdn]
 |o::l,i,acc=>by
  show b∈Zdn txs p t (i+1) (if Zdo txs t p o then acc++[⟨t.id,i,Zw o⟩] else acc) l↔_
  rw[ZjR txs p t b l]
  constructor
  ·rintro(h|⟨j,o',h1,h2,h3⟩)
   ·by_cases hb:Zdo txs t p o=true
    ·rw[if_pos hb,List.mem_append,List.mem_singleton]at h;rcases h with h|h
     ·exact .inl h
     ·exact .inr ⟨0,o,rfl,hb,by simpa using h⟩
    ·rw[if_neg hb]at h;exact .inl h
   ·exact .inr ⟨j+1,o',by simpa using h1,h2,by rw[h3];congr 2;omega⟩
  ·rintro(h|⟨j,o',h1,h2,h3⟩)
   ·left
    split
    ·exact List.mem_append_left _ h
    ·exact h
   ·cases j with
    |zero=>
     simp only[Qz,Option.some.injEq]at h1;subst h1
     left
     rw[if_pos h2,List.mem_append,List.mem_singleton];exact .inr (by simpa using h3)
    |succ j=>
     right
     exact⟨j,o',by simpa using h1,h2,by rw[h3];congr 2;omega⟩
theorem ZjS (txs:List HTx) (p:Int) (b:HBad):∀(l:List HTx) (acc:List HBad),b∈ZdH txs p acc l↔b∈acc∨∃t∈l,∃(j:Nat) (o:HOp),t.ops[j]? =some o∧Zdo txs t p o=true∧b=⟨t.id,(j:Int),Zw o⟩
 |[],acc=>by simp[ZdH]
 |t::l,acc=>by
  show b∈ZdH txs p (Zdn txs p t 0 acc t.ops) l↔_
  rw[ZjS txs p b l,ZjR];simp only[Nat.zero_add,List.mem_cons,exists_eq_or_imp]
  grind
theorem Zrj {h:Hist} (hr:Zb h=true) (p:Int) (b:HBad):(Z3 h p).contains b=ZaK h.txs p b:=by
 unfold Z3;rw[if_pos hr,Bool.eq_iff_iff,List.contains_eq_mem,decide_eq_true_eq,ZjS]
 constructor
 ·rintro(h'|⟨t,ht,j,o,h1,h2,rfl⟩)
  ·cases h'
  ·have hf:=Zfv hr ht;unfold Zdo at h2;simp only[Bool.and_eq_true]at h2;obtain⟨⟨⟨⟨hd,hrd⟩,h0⟩,hi⟩,hm⟩:=h2;unfold ZaK Zk;simp only[hf,hd,if_true];rw[if_neg (by omega)];simp only[Int.toNat_natCast,h1];simp only[Bool.not_eq_true',beq_eq_false_iff_ne]at h0 hi;have hv:Zw o=⟨o.tx,o.key,o.nth⟩:=by unfold Zw;rw[if_pos hrd]
   rw[if_neg (by simp[hrd,h0,hi])]
   cases hu:Zp h.txs o.tx with
   |none=>rw[hu]at hm;cases hm
   |some u=>
    rw[hu]at hm;simp only at hm ⊢
    by_cases hp:p=2
    ·rw[if_pos hp]at hm ⊢;exact hm
    ·rw[if_neg hp]at hm ⊢;simp only[Bool.and_eq_true,beq_iff_eq]at hm;rw[if_pos hm.1];exact hm.2
 ·intro hb
  right
  unfold ZaK at hb
  cases hd:Zk h.txs b.tx with
  |none=>rw[hd]at hb;cases hb
  |some t=>
   rw[hd]at hb;obtain⟨hf,hdn⟩:=Zbq hd;have ht:=Zc6 hf;simp only at hb
   split at hb
   ·cases hb
   ·rename_i hpl
    cases ho:t.ops[b.place.toNat]? with
    |none=>rw[ho]at hb;cases hb
    |some o=>
     rw[ho]at hb;simp only at hb
     split at hb
     ·cases hb
     ·rename_i hc
      simp only[Bool.or_eq_true,Bool.not_eq_true',beq_iff_eq,not_or,Bool.not_eq_false,beq_eq_false_iff_ne,Classical.not_not]at hc;obtain⟨⟨⟨hrd,hv⟩,h0⟩,hi⟩:=hc;have hmo:=List.mem_of_getElem? ho;obtain⟨u,hu⟩:=ZgZ hr ht.1 hmo hrd h0 hi;refine⟨t,ht.1,b.place.toNat,o,ho,?_,?_⟩
      ·unfold Zdo;rw[hu]at hb ⊢;simp only at hb ⊢;simp only[hdn,hrd,Bool.true_and,Bool.and_eq_true];refine⟨⟨by simpa using h0,by simpa using hi⟩,?_⟩
       split at hb
       ·rename_i hp;rw[if_pos hp];exact hb
       ·rename_i hp
        rw[if_neg hp]
        split at hb
        ·rename_i hp3;simp[hp3];simpa using hb
        ·cases hb
      ·obtain⟨bt,bp,bo⟩:=b;simp only at hv hpl ht ⊢;rw[ht.2,hv,Int.toNat_of_nonneg (by omega)]
/-! witnesses -/
theorem Zj9 {h:Hist} {e:Edge} (he:ZN h e=true):e.k=1∨e.k=2∨e.k=3:=by
 unfold ZN at he
 split at he
 ·split at he
  ·cases he
  ·split at he
   ·exact .inl ‹_›
   ·split at he
    ·exact .inr (.inl ‹_›)
    ·split at he
     ·exact .inr (.inr ‹_›)
     ·cases he
 ·cases he
end
/- Looking at a history:the last version;the next one;reads that count. -/
section
open Go.RowKit
theorem Zno {F:Nat→Prop} {w:World} {h:Hist} (H:h.lies F w) (key:Int):(ZaZ h.ords key).length≤17592186044415:=by
 unfold ZaZ
 cases hp:h.ords[Zdf h.ords key]? with
 |none=>simp
 |some o=>exact(H.ord o (List.mem_of_getElem? hp)).2.2.1
set_option maxRecDepth 100000 in
set_option maxHeartbeats 2000000 in
theorem ZrR (F:Nat→Prop) (w:World) (txs:List HTx) (ords:List HOrd) (A:Option Addr) (c:Nat) (B:Option Addr) (d:Nat) (key x y:Int) (H:Hist.lies F w ⟨txs,ords,A,c,B,d⟩):
  Calls Tryz.prog 136 #[.agg #[.slice A txs.length c,.slice B ords.length d],.int .i64 key,.int .i64 x,.int .i64 y] w fun e w'=>e= .returned (.bool (Za0 ords key x y))∧Upd No w w':=by
 have u0:=(Upd.refl No w).alloc (.cells #[.slice A txs.length c,.slice B ords.length d] 117);have H0:=H.upd u0 (fun _ _=>id);have hol:=Zno H key;have ho:=Zvq F _ ⟨txs,ords,A,c,B,d⟩ key H0;obtain⟨l,hl⟩:∃l,ZaZ ords key=l:=⟨_,rfl⟩;rw[show ZaZ (Hist.ords ⟨txs,ords,A,c,B,d⟩) key=l from hl]at ho hol;have HO:=Qh ho;have HV:=Qh (show Za0 ords key x y=(Zbw l x==some y) by unfold Za0;rw[hl]);have Hol:=Qh hol;clear hl ho hol H0
 go_enter Tryz.func136,Tryz.ntmps136
 go_wp2_with fail
 refine(HO.out).mono ?_;rintro e w1 ⟨A1,c1,rfl,ho1,hu1⟩;have hI:=Ints.of_owned ho1;have hn:=Zuv _ w1 A1 c1 l x hI Hol.out;unfold ZpY at hn;have HU:=Qh (u0.trans hu1);clear u0 hu1 ho1 hI
 cases hx:Zbw l x with
 |none=>
  rw[hx]at hn;have HN:=Qh hn;have HV2:=Qh (show Za0 ords key x y=false by rw[HV.out,hx];rfl);clear hx hn
  go_wp2_with fail
  refine(HN.out).mono ?_;rintro e w2 ⟨rfl,hu2⟩;go_wp2
  go_ret
  exact⟨by rw[HV2.out];rfl,HU.out.trans hu2⟩
 |some z=>
  rw[hx]at hn;have HN:=Qh hn;have HV2:=Qh (show Za0 ords key x y=(z==y) by rw[HV.out,hx];rfl);clear hx hn
  go_wp2_with fail
  refine(HN.out).mono ?_;rintro e w2 ⟨rfl,hu2⟩;go_wp2
  go_ret
  exact⟨by rw[HV2.out];rfl,HU.out.trans hu2⟩
theorem Znw {txs:List HTx} {v:Ver} (h:v.tx≠0) (hd:Zk txs v.tx=none):Zao txs v=false:=by unfold Zao;rw[if_neg h,hd]
theorem Znv {txs:List HTx} {v:Ver} {t:HTx} (h:v.tx≠0) (hd:Zk txs v.tx=some t):Zao txs v=(v.nth==(Z1 t.ops v.key:Int)):=by unfold Zao;rw[if_neg h,hd]
set_option maxRecDepth 100000 in
set_option maxHeartbeats 2000000 in
theorem ZuX (F:Nat→Prop) (w:World) (txs:List HTx) (ords:List HOrd) (A:Option Addr) (c:Nat) (B:Option Addr) (d:Nat) (v:Ver) (H:Hist.lies F w ⟨txs,ords,A,c,B,d⟩):
  Calls Tryz.prog 139 #[.agg #[.slice A txs.length c,.slice B ords.length d],.agg v.cells.toArray] w fun e w'=>e= .returned (.bool (Zao txs v))∧Upd No w w':=by
 obtain⟨tx,key,nth⟩:=v;unfold Ver.cells;have u0:=((Upd.refl No w).alloc (.cells #[.slice A txs.length c,.slice B ords.length d] 117)).alloc (.cells #[.int .i64 tx,.int .i64 key,.int .i64 nth] 36)
 by_cases h0:tx=0
 ·have hv:=Qh (show Zao txs ⟨tx,key,nth⟩=true by unfold Zao;rw[if_pos h0]);subst h0
  go_enter Tryz.func139,Tryz.ntmps139
  go_wp2
  go_ret
  exact⟨by rw[hv.out];rfl,u0⟩
 ·have h0b:(tx==0)=false:=by simpa using h0
  have b1:=Blk.new (w.alloc (.cells #[.slice A txs.length c,.slice B ords.length d] 117)) 36 [.int .i64 tx,.int .i64 key,.int .i64 nth];simp only[World.size_alloc]at b1;have B1:=Qh b1;have ha:=Qh (Zn1 F _ txs ords A c B d tx (H.upd u0 (fun _ _=>id)));have H0':=Qh h0;clear h0 b1
  go_enter Tryz.func139,Tryz.ntmps139
  go_wp2_with fail
  refine(ha.out).mono ?_;rintro e w1 ⟨x,b,dn,A1,l,c1,rfl,hc1,hfew,hh1,hm,hu1⟩;have bv:=Qh ((B1.out.upd hu1 id).alloc (.cells #[.int .i64 x,.bool dn,.slice A1 l.length c1] 85));have bt:=Qh (Blk.new w1 85 [.int .i64 x,.bool dn,.slice A1 l.length c1]);have hh2:=Qh (HOps.upd hh1 ((Upd.refl No w1).alloc (.cells #[.int .i64 x,.bool dn,.slice A1 l.length c1] 85)).drew (fun _ _=>id));have UU:=Qh ((u0.trans hu1).alloc (.cells #[.int .i64 x,.bool dn,.slice A1 l.length c1] 85));have Hfew:=Qh hfew;have g0:=bv.out.cell 0;have g1:=bv.out.cell 1;have g2:=bv.out.cell 2;have k0:=bt.out.cell 0;have k1:=bt.out.cell 1;have k2:=bt.out.cell 2;simp only[Qz,Qs]at g0 g1 g2 k0 k1 k2;clear hh1 hfew u0 hu1
  cases hd:Zk txs tx with
  |none=>
   have hv:=Qh (show Zao txs ⟨tx,key,nth⟩=false from Znw (v:=⟨tx,key,nth⟩) H0'.out hd);rw[hd]at hm;subst hm;clear hd;go_wp2
   go_quiet (fail)
   go_wp2
   go_ret
   exact⟨by rw[hv.out];rfl,UU.out.drewN _⟩
  |some t=>
   have hv:=Qh (show Zao txs ⟨tx,key,nth⟩=(nth==(Z1 t.ops key:Int)) from Znv (v:=⟨tx,key,nth⟩) H0'.out hd);rw[hd]at hm;obtain⟨rfl,rfl,rfl⟩:=hm;clear hd;go_wp2;refine wp_region_noPanic ?_;refine wp_region_held_drew (S:=(fun w'=>Upd No w w'∧w'.cell? ⟨w.heap.size+1,0,none⟩=some (.int .i64 tx)∧w'.cell? ⟨w.heap.size+1,1,none⟩=some (.int .i64 key)∧w'.cell? ⟨w.heap.size+1,2,none⟩=some (.int .i64 nth)∧w'.cell? ⟨w1.heap.size,0,none⟩=some (.int .i64 t.id)∧w'.cell? ⟨w1.heap.size,1,none⟩=some (.bool dn)∧w'.cell? ⟨w1.heap.size,2,none⟩=some (.slice A1 t.ops.length c1))) (by kernel_rfl) ?_ (fun hHeld=> ?_)
   ·(first|exact⟨UU.out.drew,g0,g1,g2,k0,k1,k2⟩|exact⟨hHeld.1.trans hu3,hu3.keepNo hHeld.2.1,hu3.keepNo hHeld.2.2.1,hu3.keepNo hHeld.2.2.2.1,hu3.keepNo hHeld.2.2.2.2.1,hu3.keepNo hHeld.2.2.2.2.2.1,hu3.keepNo hHeld.2.2.2.2.2.2⟩)
   refine wpK 0 rfl ?_;refine wpK 1 rfl ?_;refine wpK 2 rfl ?_;refine wpK 3 rfl ?_;refine wpK 4 rfl ?_;refine wpK 5 rfl ?_;refine wpK 6 rfl ?_;refine wpR [7] ?_;refine wpC rfl (fun K hK=> ?_) AllReadyH.nil;go_simp
   (first
  |(go_at_call 135;refine(Ze9 _ _ t.id dn A1 c1 t.ops key hh2.out Hfew.out).mono ?_;rintro e w3 ⟨rfl,hu3⟩))
   try (go_wp2_with fail)
   refine hK.out _ _ ?_ (fun hHeld=> ?_)
   ·(first|exact⟨UU.out.drew,g0,g1,g2,k0,k1,k2⟩|exact⟨hHeld.1.trans hu3,hu3.keepNo hHeld.2.1,hu3.keepNo hHeld.2.2.1,hu3.keepNo hHeld.2.2.2.1,hu3.keepNo hHeld.2.2.2.2.1,hu3.keepNo hHeld.2.2.2.2.2.1,hu3.keepNo hHeld.2.2.2.2.2.2⟩)
   clear hK K
   try simp only[Act.put,sT,sS,sZ]
   refine wpK 8 rfl ?_;refine wpK 9 rfl ?_;refine wpK 10 rfl ?_;refine wpD (NoPanic.normal ?_);have HU:=Qh hHeld.1;clear hHeld;go_wp2
   go_ret
   exact⟨by rw[hv.out];rfl,HU.out⟩
theorem ZkU {id:Int} {l:List HOp} {key:Int} {cnt:Ver→Bool} (h:∀(j:Nat) (hj:j<l.length),(l[j].read&&l[j].key==key&& !(l[j].tx==id)&&cnt (Zw l[j]))=false):Za3 id l key cnt=false:=by
 unfold Za3;rw[List.any_eq_false];intro x hx;obtain⟨k,hk,rfl⟩:=List.mem_iff_getElem.1 hx;rw[h k hk];simp
theorem Zjx {id:Int} {l:List HOp} {key:Int} {cnt:Ver→Bool} {k:Nat} (hk:k<l.length) (h:(l[k].read&&l[k].key==key&& !(l[k].tx==id)&&cnt (Zw l[k]))=true):Za3 id l key cnt=true:=by
 unfold Za3;rw[List.any_eq_true];exact⟨l[k],List.getElem_mem hk,h⟩
def ZaW (id key:Int) (cnt:Ver→Bool) (o:HOp):Bool:=o.read&&o.key==key&& !(o.tx==id)&&cnt (Zw o)
set_option maxRecDepth 100000 in
set_option maxHeartbeats 2000000 in
theorem ZsS (F:Nat→Prop) (w:World) (i0:Int) (dn:Bool) (A:Option Addr) (c:Nat) (l:List HOp) (key:Int) (p1 p2:Addr) (cnt:Ver→Bool) (h:HOps F w A l) (hl:Zq l.length)
  (hc:Hid (∀W v,Upd No w W→Calls Tryz.prog 138 #[.agg v.cells.toArray,.pointer (some p1),.pointer (some p2)] W fun e w'=>e= .returned (.bool (cnt v))∧Upd No W w')):
  Calls Tryz.prog 137 #[.agg #[.int .i64 i0,.bool dn,.slice A l.length c],.int .i64 key,.func (.func 138) #[] #[.pointer (some p1),.pointer (some p2)]] w fun e w'=>e= .returned (.bool (Za3 i0 l key cnt))∧Upd No w w':=by
 unfold Zq at hl;have uT:=(Upd.refl No w).alloc (.cells #[.int .i64 i0,.bool dn,.slice A l.length c] 85);have bT:=Qh (Blk.new w 85 [.int .i64 i0,.bool dn,.slice A l.length c])
 go_enter Tryz.func137,Tryz.ntmps137
 go_wp2
 go_loopg [12] l.length (fun gk i wr=>∃(k:Nat),k+gk=l.length∧i= .int .i64 k∧Hid (∀(j:Nat) (hj:j<l.length),j<k→ZaW i0 key cnt l[j]=false)∧Upd No (w.alloc (.cells #[.int .i64 i0,.bool dn,.slice A l.length c] 85)) wr)
 case atStart=>exact⟨0,by omega,rfl,Qh (fun j _ hj=>by omega),Upd.refl No _⟩
 case round=>
  obtain⟨k,hgk,rfl,hall,hu⟩:=hrel
  by_cases hlt:k<l.length
  ·obtain⟨ad,hAd,q0,q1,q2,q3⟩:=(h.upd (uT.trans hu) (fun _ _=>id)).at_ hlt;obtain⟨x,hx⟩:∃x,l[k]=x:=⟨_,rfl⟩;rw[hx]at q0 q1 q2 q3;subst hAd;have X:=Qh hx;have b1:(0:Int)≤(k:Int):=Qn _;have b2:(k:Int)<(l.length:Int):=by omega
   have uA:=(Upd.refl No wr).alloc (.cells #[.bool x.read,.int .i64 x.key,.int .i64 x.tx,.int .i64 x.nth] 82);have bo:=Qh (Blk.new wr 82 [.bool x.read,.int .i64 x.key,.int .i64 x.tx,.int .i64 x.nth]);have bT1:=(bT.out.upd hu id).upd uA id;have t0:=bT1.cell 0;simp only[Qz]at t0;have HU:=Qh (hu.trans uA)
   have NX:=Qh (fun(hn:ZaW i0 key cnt x=false)=>(fun(j:Nat) (hj:j<l.length) (hjk:j<k+1)=>(by
    by_cases e:j=k
    ·subst e;rw[X.out];exact hn
    ·exact hall.out j hj (by omega):ZaW i0 key cnt l[j]=false)))
   clear hx bT1 uA
   cases hr:x.read
   ·rw[hr]at q0 t0;have HN:=Qh (show ZaW i0 key cnt x=false by unfold ZaW;rw[hr];rfl);have Hr:=Qh hr;have HU':=HU.out;rw[hr]at HU';clear hr;go_wp2
    go_roundg (gk-1)
    case measure=>omega
    case rel=>exact⟨k+1,by omega,by go_num,Qh (NX.out HN.out),HU'⟩
   ·rw[hr]at q0 t0;have HU':=HU.out;rw[hr]at HU';have Hr:=Qh hr;clear hr
    cases hk:x.key==key
    ·have HN:=Qh (show ZaW i0 key cnt x=false by unfold ZaW;rw[hk,Bool.and_false];rfl);go_wp2
     go_roundg (gk-1)
     case measure=>omega
     case rel=>exact⟨k+1,by omega,by go_num,Qh (NX.out HN.out),HU'⟩
    ·cases ht:x.tx != i0
     ·have ht2:(x.tx==i0)=true:=by simpa using ht
      have HN:=Qh (show ZaW i0 key cnt x=false by unfold ZaW;rw[ht2];simp);clear ht2;go_wp2
      go_roundg (gk-1)
      case measure=>omega
      case rel=>exact⟨k+1,by omega,by go_num,Qh (NX.out HN.out),HU'⟩
     ·have ht2:(x.tx==i0)=false:=by simpa using ht
      have HC:=Qh (show ZaW i0 key cnt x=cnt (Zw x) by unfold ZaW;rw[Hr.out,hk,ht2];rfl);obtain⟨v,hv⟩:∃v,Zw x=v:=⟨_,rfl⟩;have hof:=oof (wr.alloc (.cells #[.bool x.read,.int .i64 x.key,.int .i64 x.tx,.int .i64 x.nth] 82)) x;rw[hv]at hof
      have h2:Calls Tryz.prog 134 #[.agg #[.bool true,.int .i64 x.key,.int .i64 x.tx,.int .i64 x.nth]] (wr.alloc (.cells #[.bool true,.int .i64 x.key,.int .i64 x.tx,.int .i64 x.nth] 82)) fun e w'=>e= .returned (.agg v.cells.toArray)∧Upd No (wr.alloc (.cells #[.bool true,.int .i64 x.key,.int .i64 x.tx,.int .i64 x.nth] 82)) w':=by
       have:=hof;unfold HOp.cells at this
       rwa [Hr.out]at this
      have Hof:=Qh h2;have V:=Qh hv;clear hof h2 hv ht2
      go_wp2_with fail
      refine(Hof.out).mono ?_;rintro e w1 ⟨rfl,hu1⟩;have hcc:=hc.out w1 v ((uT.trans HU').trans hu1)
      cases hcv:cnt v
      ·rw[hcv]at hcc;have HCC:=Qh hcc;have HN:=Qh (show ZaW i0 key cnt x=false by rw[HC.out,V.out];exact hcv);clear hcv hcc
       go_wp2_with fail
       refine(HCC.out).mono ?_;rintro e w2 ⟨rfl,hu2⟩;go_wp2
       go_roundg (gk-1)
       case measure=>omega
       case rel=>exact⟨k+1,by omega,by go_num,Qh (NX.out HN.out),(HU'.trans hu1).trans hu2⟩
      ·rw[hcv]at hcc;have HCC:=Qh hcc;have HN:=Qh (show Za3 i0 l key cnt=true from Zjx hlt (by rw[X.out];show ZaW i0 key cnt x=true;rw[HC.out,V.out];exact hcv));clear hcv hcc
       go_wp2_with fail
       refine(HCC.out).mono ?_;rintro e w2 ⟨rfl,hu2⟩;go_wp2
       go_ret
       exact⟨by rw[HN.out];rfl,((uT.trans HU').trans hu1).trans hu2⟩
  ·obtain rfl:k=l.length:=by omega
   have HN:=Qh (show Za3 i0 l key cnt=false from ZkU fun j hj=>hall.out j hj hj);go_wp2
   go_ret
   exact⟨by rw[HN.out];rfl,uT.trans hu⟩
set_option maxRecDepth 100000 in
set_option maxHeartbeats 2000000 in
theorem ZsR (F:Nat→Prop) (w:World) (i0:Int) (dn:Bool) (A:Option Addr) (c:Nat) (l:List HOp) (key:Int) (p1 p2:Addr) (cnt:Ver→Bool) (h:HOps F w A l) (hl:Zq l.length)
  (hc:Hid (∀W v,Upd No w W→Calls Tryz.prog 140 #[.agg v.cells.toArray,.pointer (some p1),.pointer (some p2)] W fun e w'=>e= .returned (.bool (cnt v))∧Upd No W w')):
  Calls Tryz.prog 137 #[.agg #[.int .i64 i0,.bool dn,.slice A l.length c],.int .i64 key,.func (.func 140) #[] #[.pointer (some p1),.pointer (some p2)]] w fun e w'=>e= .returned (.bool (Za3 i0 l key cnt))∧Upd No w w':=by
 unfold Zq at hl;have uT:=(Upd.refl No w).alloc (.cells #[.int .i64 i0,.bool dn,.slice A l.length c] 85);have bT:=Qh (Blk.new w 85 [.int .i64 i0,.bool dn,.slice A l.length c])
 go_enter Tryz.func137,Tryz.ntmps137
 go_wp2
 go_loopg [12] l.length (fun gk i wr=>∃(k:Nat),k+gk=l.length∧i= .int .i64 k∧Hid (∀(j:Nat) (hj:j<l.length),j<k→ZaW i0 key cnt l[j]=false)∧Upd No (w.alloc (.cells #[.int .i64 i0,.bool dn,.slice A l.length c] 85)) wr)
 case atStart=>exact⟨0,by omega,rfl,Qh (fun j _ hj=>by omega),Upd.refl No _⟩
 case round=>
  obtain⟨k,hgk,rfl,hall,hu⟩:=hrel
  by_cases hlt:k<l.length
  ·obtain⟨ad,hAd,q0,q1,q2,q3⟩:=(h.upd (uT.trans hu) (fun _ _=>id)).at_ hlt;obtain⟨x,hx⟩:∃x,l[k]=x:=⟨_,rfl⟩;rw[hx]at q0 q1 q2 q3;subst hAd;have X:=Qh hx;have b1:(0:Int)≤(k:Int):=Qn _;have b2:(k:Int)<(l.length:Int):=by omega
   have uA:=(Upd.refl No wr).alloc (.cells #[.bool x.read,.int .i64 x.key,.int .i64 x.tx,.int .i64 x.nth] 82);have bo:=Qh (Blk.new wr 82 [.bool x.read,.int .i64 x.key,.int .i64 x.tx,.int .i64 x.nth]);have bT1:=(bT.out.upd hu id).upd uA id;have t0:=bT1.cell 0;simp only[Qz]at t0;have HU:=Qh (hu.trans uA)
   have NX:=Qh (fun(hn:ZaW i0 key cnt x=false)=>(fun(j:Nat) (hj:j<l.length) (hjk:j<k+1)=>(by
    by_cases e:j=k
    ·subst e;rw[X.out];exact hn
    ·exact hall.out j hj (by omega):ZaW i0 key cnt l[j]=false)))
   clear hx bT1 uA
   cases hr:x.read
   ·rw[hr]at q0 t0;have HN:=Qh (show ZaW i0 key cnt x=false by unfold ZaW;rw[hr];rfl);have Hr:=Qh hr;have HU':=HU.out;rw[hr]at HU';clear hr;go_wp2
    go_roundg (gk-1)
    case measure=>omega
    case rel=>exact⟨k+1,by omega,by go_num,Qh (NX.out HN.out),HU'⟩
   ·rw[hr]at q0 t0;have HU':=HU.out;rw[hr]at HU';have Hr:=Qh hr;clear hr
    cases hk:x.key==key
    ·have HN:=Qh (show ZaW i0 key cnt x=false by unfold ZaW;rw[hk,Bool.and_false];rfl);go_wp2
     go_roundg (gk-1)
     case measure=>omega
     case rel=>exact⟨k+1,by omega,by go_num,Qh (NX.out HN.out),HU'⟩
    ·cases ht:x.tx != i0
     ·have ht2:(x.tx==i0)=true:=by simpa using ht
      have HN:=Qh (show ZaW i0 key cnt x=false by unfold ZaW;rw[ht2];simp);clear ht2;go_wp2
      go_roundg (gk-1)
      case measure=>omega
      case rel=>exact⟨k+1,by omega,by go_num,Qh (NX.out HN.out),HU'⟩
     ·have ht2:(x.tx==i0)=false:=by simpa using ht
      have HC:=Qh (show ZaW i0 key cnt x=cnt (Zw x) by unfold ZaW;rw[Hr.out,hk,ht2];rfl);obtain⟨v,hv⟩:∃v,Zw x=v:=⟨_,rfl⟩;have hof:=oof (wr.alloc (.cells #[.bool x.read,.int .i64 x.key,.int .i64 x.tx,.int .i64 x.nth] 82)) x;rw[hv]at hof
      have h2:Calls Tryz.prog 134 #[.agg #[.bool true,.int .i64 x.key,.int .i64 x.tx,.int .i64 x.nth]] (wr.alloc (.cells #[.bool true,.int .i64 x.key,.int .i64 x.tx,.int .i64 x.nth] 82)) fun e w'=>e= .returned (.agg v.cells.toArray)∧Upd No (wr.alloc (.cells #[.bool true,.int .i64 x.key,.int .i64 x.tx,.int .i64 x.nth] 82)) w':=by
       have:=hof;unfold HOp.cells at this
       rwa [Hr.out]at this
      have Hof:=Qh h2;have V:=Qh hv;clear hof h2 hv ht2
      go_wp2_with fail
      refine(Hof.out).mono ?_;rintro e w1 ⟨rfl,hu1⟩;have hcc:=hc.out w1 v ((uT.trans HU').trans hu1)
      cases hcv:cnt v
      ·rw[hcv]at hcc;have HCC:=Qh hcc;have HN:=Qh (show ZaW i0 key cnt x=false by rw[HC.out,V.out];exact hcv);clear hcv hcc
       go_wp2_with fail
       refine(HCC.out).mono ?_;rintro e w2 ⟨rfl,hu2⟩;go_wp2
       go_roundg (gk-1)
       case measure=>omega
       case rel=>exact⟨k+1,by omega,by go_num,Qh (NX.out HN.out),(HU'.trans hu1).trans hu2⟩
      ·rw[hcv]at hcc;have HCC:=Qh hcc;have HN:=Qh (show Za3 i0 l key cnt=true from Zjx hlt (by rw[X.out];show ZaW i0 key cnt x=true;rw[HC.out,V.out];exact hcv));clear hcv hcc
       go_wp2_with fail
       refine(HCC.out).mono ?_;rintro e w2 ⟨rfl,hu2⟩;go_wp2
       go_ret
       exact⟨by rw[HN.out];rfl,((uT.trans HU').trans hu1).trans hu2⟩
  ·obtain rfl:k=l.length:=by omega
   have HN:=Qh (show Za3 i0 l key cnt=false from ZkU fun j hj=>hall.out j hj hj);go_wp2
   go_ret
   exact⟨by rw[HN.out];rfl,uT.trans hu⟩
end
/- Looking at a history:edges. -/
section
open Go.RowKit
def Zn8 (w:World) (g:Nat) (txs:List HTx) (ords:List HOrd) (A:Option Addr) (c:Nat) (B:Option Addr) (d:Nat):Prop:=Blk w g 117 [.slice A txs.length c,.slice B ords.length d]
theorem ZlQ {F:Nat→Prop} {w:World} {txs:List HTx} {ords:List HOrd} {A:Option Addr} {c:Nat} {B:Option Addr} {d:Nat} {tx key nth:Int} {b:Bool} (H:Hist.lies F w ⟨txs,ords,A,c,B,d⟩) (hb:Zao txs ⟨tx,key,nth⟩=b):
  Calls Tryz.prog 139 #[.agg #[.slice A txs.length c,.slice B ords.length d],.agg #[.int .i64 tx,.int .i64 key,.int .i64 nth]] w fun e w'=>e= .returned (.bool b)∧Upd No w w':=by subst hb;exact ZuX F w txs ords A c B d ⟨tx,key,nth⟩ H
theorem ZtN {F:Nat→Prop} {w:World} {txs:List HTx} {ords:List HOrd} {A:Option Addr} {c:Nat} {B:Option Addr} {d:Nat} {key x y:Int} {b:Bool} (H:Hist.lies F w ⟨txs,ords,A,c,B,d⟩) (hb:Za0 ords key x y=b):
  Calls Tryz.prog 136 #[.agg #[.slice A txs.length c,.slice B ords.length d],.int .i64 key,.int .i64 x,.int .i64 y] w fun e w'=>e= .returned (.bool b)∧Upd No w w':=by subst hb;exact ZrR F w txs ords A c B d key x y H
section
variable (F:Nat→Prop) (w:World) (txs:List HTx) (ords:List HOrd) (A:Option Addr) (c:Nat) (B:Option Addr) (d:Nat) (g ge:Nat) (e:Edge) (v:Ver)
set_option maxRecDepth 100000 in
theorem ce1 (H:Hist.lies F w ⟨txs,ords,A,c,B,d⟩) (hg:Zn8 w g txs ords A c B d) (he:Blk w ge 26 e.cells):
  Calls Tryz.prog 138 #[.agg v.cells.toArray,.pointer (some ⟨ge,0,none⟩),.pointer (some ⟨g,0,none⟩)] w fun r w'=>r= .returned (.bool (v.tx==e.f&&Zao txs v))∧Upd No w w':=by
 obtain⟨tx,key,nth⟩:=v;obtain⟨ef,et,ek,ey⟩:=e;unfold Edge.cells at he;unfold Zn8 at hg;unfold Ver.cells;have uA:=(Upd.refl No w).alloc (.cells #[.int .i64 tx,.int .i64 key,.int .i64 nth] 36);have g0:=(hg.upd uA id).cell 0;have g1:=(hg.upd uA id).cell 1;have e0:=(he.upd uA id).cell 0;simp only[Qz,Qs]at g0 g1 e0;obtain⟨b,hb⟩:∃b,Zao txs ⟨tx,key,nth⟩=b:=⟨_,rfl⟩;have Hb:=Qh hb;rw[hb];have H1:=H.upd uA (fun _ _=>id);clear hb
 cases ht:tx==ef
 ·go_enter Tryz.func138,Tryz.ntmps138
  go_wp2
  go_ret
  exact⟨rfl,uA⟩
 ·go_enter Tryz.func138,Tryz.ntmps138
  go_wp2_with fail
  refine(ZlQ H1 Hb.out).mono ?_;rintro e w1 ⟨rfl,hu1⟩;go_wp2
  go_ret
  exact⟨rfl,uA.trans hu1⟩
set_option maxRecDepth 100000 in
theorem ce2 (H:Hist.lies F w ⟨txs,ords,A,c,B,d⟩) (hg:Zn8 w g txs ords A c B d) (he:Blk w ge 26 e.cells):
  Calls Tryz.prog 140 #[.agg v.cells.toArray,.pointer (some ⟨g,0,none⟩),.pointer (some ⟨ge,0,none⟩)] w fun r w'=>r= .returned (.bool (Zao txs v&&Za0 ords e.key v.tx e.t))∧Upd No w w':=by
 obtain⟨tx,key,nth⟩:=v;obtain⟨ef,et,ek,ey⟩:=e;unfold Edge.cells at he;unfold Zn8 at hg;unfold Ver.cells;have uA:=(Upd.refl No w).alloc (.cells #[.int .i64 tx,.int .i64 key,.int .i64 nth] 36);have bv:=Qh (Blk.new w 36 [.int .i64 tx,.int .i64 key,.int .i64 nth]);have hgA:=hg.upd uA id;have heA:=he.upd uA id;have g0:=hgA.cell 0;have g1:=hgA.cell 1;simp only[Qz,Qs]at g0 g1;obtain⟨b,hb⟩:∃b,Zao txs ⟨tx,key,nth⟩=b:=⟨_,rfl⟩;obtain⟨n,hn⟩:∃n,Za0 ords ey tx et=n:=⟨_,rfl⟩;have Hb:=Qh hb;have Hn:=Qh hn;rw[hb]
 show Calls Tryz.prog 140 _ w fun r w'=>r= .returned (.bool (b&&Za0 ords ey tx et))∧Upd No w w'
 rw[hn];have H1:=H.upd uA (fun _ _=>id);have HGE:=Qh (And.intro hgA heA);have UA:=Qh uA;clear hb hn hgA heA uA
 cases b
 ·go_enter Tryz.func140,Tryz.ntmps140
  go_wp2_with fail
  refine(ZlQ H1 Hb.out).mono ?_;rintro e w1 ⟨rfl,hu1⟩;go_wp2
  go_ret
  exact⟨rfl,UA.out.trans hu1⟩
 ·go_enter Tryz.func140,Tryz.ntmps140
  go_wp2_with fail
  refine(ZlQ H1 Hb.out).mono ?_;rintro e w1 ⟨rfl,hu1⟩;have q0:=(HGE.out.1.upd hu1 id).cell 0;have q1:=(HGE.out.1.upd hu1 id).cell 1;have e1:=(HGE.out.2.upd hu1 id).cell 1;have e3:=(HGE.out.2.upd hu1 id).cell 3;have v0:=(bv.out.upd hu1 id).cell 0;simp only[Qz,Qs]at q0 q1 e1 e3 v0;have H2:=H.upd (UA.out.trans hu1) (fun _ _=>id);have HU:=Qh (UA.out.trans hu1);clear g0 g1 hu1 H1
  go_wp2_with fail
  refine(ZtN H2 Hn.out).mono ?_;rintro e w2 ⟨rfl,hu2⟩;go_wp2
  go_ret
  exact⟨rfl,HU.out.trans hu2⟩
end
section
variable {h:Hist} {e:Edge}
theorem Zq7 (h1:Zk h.txs e.f=none):ZN h e=false:=by unfold ZN;rw[h1]
theorem Zq6 {a:HTx} (h1:Zk h.txs e.f=some a) (h2:Zk h.txs e.t=none):ZN h e=false:=by unfold ZN;rw[h1,h2]
theorem Zpw {a b:HTx} (h1:Zk h.txs e.f=some a) (h2:Zk h.txs e.t=some b):ZN h e=(if e.f=e.t then false
  else if e.k=1 then Za0 h.ords e.key e.f e.t
  else if e.k=2 then Za3 b.id b.ops e.key fun v=>v.tx==e.f&&Zao h.txs v
  else if e.k=3 then Za3 a.id a.ops e.key fun v=>Zao h.txs v&&Za0 h.ords e.key v.tx e.t
  else false):=by unfold ZN;rw[h1,h2]
end
set_option maxRecDepth 100000 in
set_option maxHeartbeats 4000000 in
theorem ZuY (F:Nat→Prop) (w:World) (txs:List HTx) (ords:List HOrd) (A:Option Addr) (c:Nat) (B:Option Addr) (d:Nat) (e:Edge) (H:Hist.lies F w ⟨txs,ords,A,c,B,d⟩):
  Calls Tryz.prog 67 #[.agg #[.slice A txs.length c,.slice B ords.length d],.agg e.cells.toArray] w fun r w'=>r= .returned (.bool (ZN ⟨txs,ords,A,c,B,d⟩ e))∧Upd No w w':=by
 obtain⟨ef,et,ek,ey⟩:=e;unfold Edge.cells;have u0:=((Upd.refl No w).alloc (.cells #[.slice A txs.length c,.slice B ords.length d] 117)).alloc (.cells #[.int .i64 ef,.int .i64 et,.int .i64 ek,.int .i64 ey] 26);have bR:=Qh ((Blk.new w 117 [.slice A txs.length c,.slice B ords.length d]).alloc (.cells #[.int .i64 ef,.int .i64 et,.int .i64 ek,.int .i64 ey] 26));have b1:=Blk.new (w.alloc (.cells #[.slice A txs.length c,.slice B ords.length d] 117)) 26 [.int .i64 ef,.int .i64 et,.int .i64 ek,.int .i64 ey];simp only[World.size_alloc]at b1;have bE:=Qh b1;have ha:=Qh (Zn1 F _ txs ords A c B d ef (H.upd u0 (fun _ _=>id)));clear b1
 go_enter Tryz.func67,Tryz.ntmps67
 go_wp2_with fail
 refine(ha.out).mono ?_;rintro e w1 ⟨x1,q1,dn1,A1,l1,c1,rfl,hc1,hfew1,hh1,hm1,hu1⟩;have uT1:=hu1.alloc (.cells #[.int .i64 x1,.bool dn1,.slice A1 l1.length c1] 85);have bR1:=Qh (bR.out.upd uT1 id);have bE1:=Qh (bE.out.upd uT1 id);have bT1:=Qh (Blk.new w1 85 [.int .i64 x1,.bool dn1,.slice A1 l1.length c1]);have hh1':=Qh (HOps.upd hh1 ((Upd.refl No w1).alloc (.cells #[.int .i64 x1,.bool dn1,.slice A1 l1.length c1] 85)) (fun _ _=>id));have hb:=Qh (Zn1 F _ txs ords A c B d et (H.upd (u0.trans uT1) (fun _ _=>id)));have U1:=Qh (u0.trans uT1);have M1:=Qh hm1;have FW1:=Qh hfew1;have y0:=bE1.out.cell 0;have y1:=bE1.out.cell 1;have y2:=bE1.out.cell 2;have y3:=bE1.out.cell 3;simp only[Qz,Qs]at y0 y1 y2 y3;have r0:=bR1.out.cell 0;have r1:=bR1.out.cell 1;simp only[Qz,Qs]at r0 r1;clear u0 hu1 uT1 hh1 hm1 hfew1
 go_wp2_with fail
 refine(hb.out).mono ?_;rintro e w2 ⟨x2,q2,dn2,A2,l2,c2,rfl,hc2,hfew2,hh2,hm2,hu2⟩;have uT2:=hu2.alloc (.cells #[.int .i64 x2,.bool dn2,.slice A2 l2.length c2] 85);have bR2:=Qh (bR1.out.upd uT2 id);have bE2:=Qh (bE1.out.upd uT2 id);have bT2:=Qh (Blk.new w2 85 [.int .i64 x2,.bool dn2,.slice A2 l2.length c2]);have bT12:=Qh (bT1.out.upd uT2 id);have hh12:=Qh (HOps.upd hh1'.out uT2 (fun _ _=>id));have hh2':=Qh (HOps.upd hh2 ((Upd.refl No w2).alloc (.cells #[.int .i64 x2,.bool dn2,.slice A2 l2.length c2] 85)) (fun _ _=>id));have U2:=Qh (U1.out.trans uT2);have M2:=Qh hm2;have FW2:=Qh hfew2;clear y0 y1 y2 y3 r0 r1;have y0:=bE2.out.cell 0;have y1:=bE2.out.cell 1;have y2:=bE2.out.cell 2;have y3:=bE2.out.cell 3;simp only[Qz,Qs]at y0 y1 y2 y3;have r0:=bR2.out.cell 0;have r1:=bR2.out.cell 1;have s0:=bT12.out.cell 0;have s1:=bT12.out.cell 1;have s2:=bT12.out.cell 2;simp only[Qz,Qs]at r0 r1 s0 s1 s2;clear hu2 uT2 hh2 hm2 hfew2
 cases hd1:Zk txs ef with
 |none=>
  have hv:=Qh (show ZN ⟨txs,ords,A,c,B,d⟩ ⟨ef,et,ek,ey⟩=false from Zq7 hd1);have hm1:=M1.out;rw[hd1]at hm1;subst hm1;clear hd1;go_wp2
  go_ret
  exact⟨by rw[hv.out];rfl,U2.out⟩
 |some a=>
  have hm1:=M1.out;rw[hd1]at hm1;obtain⟨rfl,rfl,rfl⟩:=hm1;have HD1:=Qh hd1;clear hd1 M1
  cases hd2:Zk txs et with
  |none=>
   have hv:=Qh (show ZN ⟨txs,ords,A,c,B,d⟩ ⟨ef,et,ek,ey⟩=false from Zq6 HD1.out hd2);have hm2:=M2.out;rw[hd2]at hm2;subst hm2;clear hd2;go_wp2
   go_ret
   exact⟨by rw[hv.out];rfl,U2.out⟩
  |some b=>
   have hm2:=M2.out;rw[hd2]at hm2;obtain⟨rfl,rfl,rfl⟩:=hm2;have hv0:=Zpw (h:=⟨txs,ords,A,c,B,d⟩) (e:=⟨ef,et,ek,ey⟩) HD1.out hd2;clear hd2 M2
   by_cases hft:ef=et
   ·rw[if_pos hft]at hv0;have hv:=Qh hv0;have hfb:(ef==et)=true:=by simpa using hft
    clear hft hv0;go_wp2
    go_ret
    exact⟨by rw[hv.out];rfl,U2.out⟩
   ·rw[if_neg hft]at hv0;have hfb:(ef==et)=false:=by simpa using hft
    clear hft
    by_cases hk1:ek=1
    ·rw[if_pos hk1]at hv0;have hv:=Qh hv0;have hn:=Qh (show Calls Tryz.prog 136 #[.agg #[.slice A txs.length c,.slice B ords.length d],.int .i64 ey,.int .i64 ef,.int .i64 et] _ _ from ZrR F _ txs ords A c B d ey ef et (H.upd U2.out (fun _ _=>id)));have hkb:(ek==1)=true:=by simpa using hk1
     clear hk1 hv0
     go_wp2_with fail
     refine(hn.out).mono ?_;rintro e w3 ⟨rfl,hu3⟩;go_wp2
     go_ret
     exact⟨by rw[hv.out];rfl,U2.out.trans hu3⟩
    ·rw[if_neg hk1]at hv0;have hkb:(ek==1)=false:=by simpa using hk1
     clear hk1
     by_cases hk2:ek=2
     ·rw[if_pos hk2]at hv0;have hv:=Qh hv0;have hkb2:(ek==2)=true:=by simpa using hk2
      have hn:=Qh (ZsS _ _ b.id dn2 A2 c2 b.ops ey ⟨w.heap.size+1,0,none⟩ ⟨w.heap.size,0,none⟩ (fun v=>v.tx==ef&&Zao txs v) hh2'.out FW2.out
       (Qh fun W v hW=>ce1 F W txs ords A c B d w.heap.size (w.heap.size+1) ⟨ef,et,ek,ey⟩ v (H.upd (U2.out.trans hW) (fun _ _=>id)) (bR2.out.upd hW id) (bE2.out.upd hW id)))
      clear hk2 hv0
      go_wp2_with fail
      refine(hn.out).mono ?_;rintro e w3 ⟨rfl,hu3⟩;go_wp2
      go_ret
      exact⟨by rw[hv.out];rfl,U2.out.trans hu3⟩
     ·rw[if_neg hk2]at hv0;have hkb2:(ek==2)=false:=by simpa using hk2
      clear hk2
      by_cases hk3:ek=3
      ·rw[if_pos hk3]at hv0;have hv:=Qh hv0;have hkb3:(ek==3)=true:=by simpa using hk3
       have hn:=Qh (ZsR _ _ a.id dn1 A1 c1 a.ops ey ⟨w.heap.size,0,none⟩ ⟨w.heap.size+1,0,none⟩ (fun v=>Zao txs v&&Za0 ords ey v.tx et) hh12.out FW1.out
        (Qh fun W v hW=>ce2 F W txs ords A c B d w.heap.size (w.heap.size+1) ⟨ef,et,ek,ey⟩ v (H.upd (U2.out.trans hW) (fun _ _=>id)) (bR2.out.upd hW id) (bE2.out.upd hW id)))
       clear hk3 hv0
       go_wp2_with fail
       refine(hn.out).mono ?_;rintro e w3 ⟨rfl,hu3⟩;go_wp2
       go_ret
       exact⟨by rw[hv.out];rfl,U2.out.trans hu3⟩
      ·rw[if_neg hk3]at hv0;have hv:=Qh hv0;have hkb3:(ek==3)=false:=by simpa using hk3
       clear hk3 hv0;go_wp2
       go_ret
       exact⟨by rw[hv.out];rfl,U2.out⟩
end
end Go.Proofs.YtonblekdfinpkaaGreat
