/- Reads that may not be, plain: those whose key counts, as they are gathered. -/
import Derived.Test.YtblplapkdmhikaaGreatDbbh
import Derived.Test.YtblplapkdmhikaaGreatDbbi
import Derived.Test.YtblplapkdmhikaaGreatDbbm
import Derived.Test.YtblplapkdmhikaaGreatDbbu
namespace Go.Proofs.YtblplapkdmhikaaGreat
set_option linter.unusedVariables false
set_option linter.unusedSimpArgs false
section
open Go.RowKit
def Zc8 (p:Int) (td ud:Bool) (nth:Int) (W:Nat):Bool:=if p=2 then td&& !ud else if p=3 then td&&decide (nth<(W:Int)) else false
def Z4 (cnt:Int→Bool) (txs:List HTx) (p:Int) (t:HTx) (o:HOp):Bool:=
 o.read&& !(o.tx==0)&& !(o.tx==t.id)&&cnt o.key&&Zc8 p t.done (Zaw txs o.tx) o.nth (Zd (ZaN txs o.tx) o.key)
def ZR (P:HTx→HOp→Bool) (t:HTx) (i:Nat) (acc:List HBad):List HOp→List HBad
 |[]=>acc
 |o::l=>ZR P t (i+1) (if P t o then acc++[⟨t.id,i,Zp o⟩] else acc) l
def Za1 (P:HTx→HOp→Bool) (acc:List HBad):List HTx→List HBad
 |[]=>acc
 |t::l=>Za1 P (ZR P t 0 acc t.ops) l
theorem Zg4 (txs:List HTx) (p:Int) (t:HTx):∀(l:List HOp) (i:Nat) (acc:List HBad),ZR (Zbx txs · p ·) t i acc l=ZaK txs p t i acc l
 |[],_,_=>rfl
 |o::l,i,acc=>Zg4 txs p t l (i+1) _
theorem Zg5 (txs:List HTx) (p:Int):∀(l:List HTx) (acc:List HBad),Za1 (Zbx txs · p ·) acc l=Zbn txs p acc l
 |[],_=>rfl
 |t::l,acc=>by
  show Za1 _ (ZR _ t 0 acc t.ops) l=Zbn txs p (ZaK txs p t 0 acc t.ops) l
  rw[Zg4,Zg5 txs p l]
theorem ZfW {P Q:HTx→HOp→Bool} {t:HTx}:∀(l:List HOp) (i:Nat) (acc:List HBad),(∀o∈l,P t o=Q t o)→ZR P t i acc l=ZR Q t i acc l
 |[],_,_,_=>rfl
 |o::l,i,acc,h=>by
  show ZR P t (i+1) (if P t o then _ else acc) l=ZR Q t (i+1) (if Q t o then _ else acc) l
  rw[h o (List.mem_cons_self ..),ZfW l _ _ fun x hx=>h x (List.mem_cons_of_mem _ hx)]
theorem ZfX {P Q:HTx→HOp→Bool}:∀(l:List HTx) (acc:List HBad),(∀t∈l,∀o∈t.ops,P t o=Q t o)→Za1 P acc l=Za1 Q acc l
 |[],_,_=>rfl
 |t::l,acc,h=>by
  show Za1 P (ZR P t 0 acc t.ops) l=Za1 Q (ZR Q t 0 acc t.ops) l
  rw[ZfW _ _ _ (h t (List.mem_cons_self ..)),ZfX l _ fun x hx=>h x (List.mem_cons_of_mem _ hx)]
theorem ZeM (cnt:Int→Bool) (P:HTx→HOp→Bool) (t:HTx) (hP:∀o,P t o=true→o.read=true):∀(l:List HOp) (i:Nat) (acc:List HBad),
  ZR (fun t o=>cnt o.key&&P t o) t i (acc.filter fun b=>cnt b.of.key) l=(ZR P t i acc l).filter fun b=>cnt b.of.key
 |[],_,_=>rfl
 |o::l,i,acc=>by
  show ZR _ t (i+1) (if (cnt o.key&&P t o)=true then _ else _) l=List.filter _ (ZR P t (i+1) (if P t o=true then acc++[⟨t.id,i,Zp o⟩] else acc) l)
  rw[←ZeM cnt P t hP l]
  congr 1
  by_cases h:P t o=true
  ·have hr:=hP o h;have hk:(Zp o).key=o.key:=by unfold Zp;rw[if_pos hr]
   rw[h,Bool.and_true,if_pos rfl,List.filter_append]
   by_cases hc:cnt o.key=true
   ·rw[if_pos hc,List.filter_cons_of_pos (by simpa[hk]using hc)];rfl
   ·rw[if_neg hc,List.filter_cons_of_neg (by simpa[hk]using hc)];simp
  ·rw[if_neg h,if_neg (by simp[h])]
theorem ZeN (cnt:Int→Bool) (P:HTx→HOp→Bool) (hP:∀t o,P t o=true→o.read=true):∀(l:List HTx) (acc:List HBad),
  Za1 (fun t o=>cnt o.key&&P t o) (acc.filter fun b=>cnt b.of.key) l=(Za1 P acc l).filter fun b=>cnt b.of.key
 |[],_=>rfl
 |t::l,acc=>by
  show Za1 _ (ZR _ t 0 (acc.filter fun b=>cnt b.of.key) t.ops) l=List.filter _ (Za1 P (ZR P t 0 acc t.ops) l)
  rw[ZeM cnt P t (hP t),ZeN cnt P hP l]
def Zd8 (cnt:Int→Bool) (h:Hist) (p:Int):List HBad:=if Za h=true then Za1 (Z4 cnt h.txs p) [] h.txs else []
section
variable {h:Hist}
theorem Znh (hr:Za h=true) (cnt:Int→Bool) (p:Int) {t:HTx} (ht:t∈h.txs) {o:HOp} (ho:o∈t.ops):Z4 cnt h.txs p t o=(cnt o.key&&Zbx h.txs t p o):=by
 unfold Z4 Zbx
 cases h1:o.read
 ·simp
 by_cases h3:o.tx=0
 ·simp[h3]
 by_cases h2:o.tx=t.id
 ·simp[h2]
 obtain⟨u,hu⟩:=Zim hr ht ho h1 h3 h2;unfold Zaw ZaN Zc8;rw[hu];simp only;have e1:(o.tx==0)=false:=by simpa using h3
 have e2:(o.tx==t.id)=false:=by simpa using h2
 rw[e1,e2];have e3:(p==3)=decide (p=3):=by by_cases h:p=3<;>simp[h]
 rw[e3]
 cases t.done<;>cases cnt o.key<;>simp
theorem Zng (cnt:Int→Bool) (p:Int):Zd8 cnt h p=(Z3 h p).filter fun b=>cnt b.of.key:=by
 unfold Zd8 Z3
 split
 ·rename_i hr
  rw[ZfX (Q:=fun t o=>cnt o.key&&Zbx h.txs t p o) _ _ fun t ht o ho=>Znh hr cnt p ht ho];rw[←Zg5];exact ZeN cnt (Zbx h.txs · p ·) (fun t o hb=>by unfold Zbx at hb;simp only[Bool.and_eq_true]at hb;exact hb.1.1.1.2) h.txs []
 ·rfl
end
/-! the transactions by their ids -/
def HTx.val (t:HTx):Value:= .agg #[.int .i64 t.id,.bool t.done,.slice t.A t.ops.length t.c]
def ByM (m:List (Int×Value)) (txs:List HTx):Prop:=∀i,Zz m i=(Ze txs i).map HTx.val
theorem Zh5 (a b:List HTx) (i:Int):Ze (a++b) i=(Ze a i).or (Ze b i):=by
 unfold Ze;rw[List.find?_append]
theorem ByM.put {m:List (Int×Value)} {txs:List HTx} (h:ByM m txs) (x:HTx) (hn:Ze txs x.id=none):ByM (Zs m x.id x.val) (txs++[x]):=fun i=>by
 rw[Zaz,Zh5]
 by_cases e:i=x.id
 ·subst e;rw[if_pos rfl,hn];unfold Ze;simp
 ·rw[if_neg e,h i]
  have:Ze [x] i=none:=by
   unfold Ze;rw[List.find?_cons_of_neg (by simpa using fun e2:x.id=i=>e e2.symm)];rfl
  rw[this,Option.or_none]
theorem ZjI {txs:List HTx} (hn:(txs.map (·.id)).Nodup) {k:Nat} (hk:k<txs.length):Ze (txs.take k) txs[k].id=none:=by
 unfold Ze;rw[List.find?_eq_none];intro x hx;obtain⟨j,hj,rfl⟩:=List.mem_iff_getElem.1 hx;rw[List.length_take]at hj;rw[List.getElem_take];rw[List.nodup_iff_pairwise_ne,List.pairwise_map]at hn;have:=List.pairwise_iff_getElem.1 hn j k (by omega) hk (by omega)
 simpa using this
theorem ZkY (P:HTx→HOp→Bool) (t:HTx) (i:Nat) (acc:List HBad) (o:HOp) (l:List HOp):ZR P t i acc (o::l)=ZR P t (i+1) (if P t o then acc++[⟨t.id,i,Zp o⟩] else acc) l:=rfl
theorem ZkZ (P:HTx→HOp→Bool) (acc:List HBad) (t:HTx) (l:List HTx):Za1 P acc (t::l)=Za1 P (ZR P t 0 acc t.ops) l:=rfl
end
/- Reads that may not be:what one is,and the closures. -/
section
open Go.RowKit
set_option maxRecDepth 100000 in
theorem ZnP (F:Nat→Prop) (w:World) (ti:Int) (td:Bool) (tA:Option Addr) (tn tc:Nat) (ui:Int) (ud:Bool) (uA:Option Addr) (uc:Nat) (uo:List HOp) (yr:Bool) (yk yt yn p:Int) (h:HOps F w uA uo) (hl:Zg uo.length) {v:Bool} (hv:Zc8 p td ud yn (Zd uo yk)=v):
  Calls Tryz.prog 248 #[.agg #[.int .i64 ti,.bool td,.slice tA tn tc],.agg #[.int .i64 ui,.bool ud,.slice uA uo.length uc],.agg #[.bool yr,.int .i64 yk,.int .i64 yt,.int .i64 yn],.int .i64 p] w fun e w'=>e= .returned (.bool v)∧Upd No w w':=by
 obtain⟨z,hz⟩:∃z,w.heap.size=z:=⟨_,rfl⟩;obtain⟨w1,hw1⟩:∃w1,w.alloc (.cells #[.int .i64 ti,.bool td,.slice tA tn tc] 81)=w1:=⟨_,rfl⟩;have s1:w1.heap.size=z+1:=by rw[←hw1,←hz];simp
 obtain⟨w2,hw2⟩:∃w2,w1.alloc (.cells #[.int .i64 ui,.bool ud,.slice uA uo.length uc] 81)=w2:=⟨_,rfl⟩;have s2:w2.heap.size=z+1+1:=by rw[←hw2,←s1];simp
 obtain⟨wb,hwb⟩:∃wb,w2.alloc (.cells #[.bool yr,.int .i64 yk,.int .i64 yt,.int .i64 yn] 95)=wb:=⟨_,rfl⟩;have u1:Upd No w w1:=by rw[←hw1];exact(Upd.refl No w).alloc _
 have u2:Upd No w1 w2:=by rw[←hw2];exact(Upd.refl No w1).alloc _
 have u3:Upd No w2 wb:=by rw[←hwb];exact(Upd.refl No w2).alloc _
 have b1:Blk w1 z 81 [.int .i64 ti,.bool td,.slice tA tn tc]:=by rw[←hw1,←hz];exact Blk.new w _ _
 have b2:Blk w2 (z+1) 81 [.int .i64 ui,.bool ud,.slice uA uo.length uc]:=by rw[←hw2,←s1];exact Blk.new w1 _ _
 have b3:Blk wb (z+1+1) 95 [.bool yr,.int .i64 yk,.int .i64 yt,.int .i64 yn]:=by rw[←hwb,←s2];exact Blk.new w2 _ _
 have c1:∀W,Upd No wb W→W.cell? ⟨z,1,none⟩=some (.bool td):=fun W u=>(b1.upd ((u2.trans u3).trans u) id).cell 1
 have d0:∀W,Upd No wb W→W.cell? ⟨z+1,0,none⟩=some (.int .i64 ui):=fun W u=>(b2.upd (u3.trans u) id).cell 0
 have d1:∀W,Upd No wb W→W.cell? ⟨z+1,1,none⟩=some (.bool ud):=fun W u=>(b2.upd (u3.trans u) id).cell 1
 have d2:∀W,Upd No wb W→W.cell? ⟨z+1,2,none⟩=some (.slice uA uo.length uc):=fun W u=>(b2.upd (u3.trans u) id).cell 2
 have e1:∀W,Upd No wb W→W.cell? ⟨z+1+1,1,none⟩=some (.int .i64 yk):=fun W u=>(b3.upd u id).cell 1
 have e3:∀W,Upd No wb W→W.cell? ⟨z+1+1,3,none⟩=some (.int .i64 yn):=fun W u=>(b3.upd u id).cell 3
 have hr:Upd No wb wb:=Upd.refl _ _;have hu:=(u1.trans u2).trans u3;have U0:=Qh hu;have HW:=Qh (fun W (u:Upd No wb W)=>Zgg F W ui ud uA uc uo yk (h.upd (hu.trans u) (fun _ _=>id)) hl);have HV:=Qh hv;clear u1 u2 u3 b1 b2 b3 hu hv h
 by_cases p2:p=2
 ·subst p2;have HV:=Qh (show v=(td&& !ud) from HV.out.symm)
  go_enter Tryz.func248,Tryz.ntmps248
  cases td
  ·go_wp2
   go_ret
   exact⟨by have:=HV.out;subst this;rfl,U0.out⟩
  ·cases ud
   ·go_wp2
    go_ret
    exact⟨by have:=HV.out;subst this;rfl,U0.out⟩
   ·go_wp2
    go_ret
    exact⟨by have:=HV.out;subst this;rfl,U0.out⟩
 ·by_cases p3:p=3
  ·subst p3;have HV:=Qh (show v=(td&&decide (yn<(Zd uo yk:Int))) from HV.out.symm)
   go_enter Tryz.func248,Tryz.ntmps248
   cases td
   ·go_wp2;refine wp_region_noPanic ?_;refine wp_region_held_drew (S:=(fun W'=>Upd No wb W')) (by kernel_rfl) ?_ (fun hHeld=> ?_)
    ·(first|exact hr.drew|exact hHeld)
    refine wpK 0 rfl ?_;refine wpK 1 rfl ?_;refine wpK 2 rfl ?_;refine wpN 3 rfl ?_;refine wpN 4 rfl ?_;refine wpN 5 rfl ?_;refine wpN 6 rfl ?_;refine wpN 7 rfl ?_;refine wpR [8] ?_;refine wpC rfl (fun K hK=> ?_) AllReadyH.nil;go_simp;refine hK.out _ _ ?_ (fun hHeld=> ?_)
    ·exact hHeld
    clear hK K
    try simp only[Act.put,sT,sS,sZ]
    refine wpN 9 rfl ?_;refine wpK 10 rfl ?_;refine wpK 11 rfl ?_;refine wpD (NoPanic.normal ?_);have HH:=Qh hHeld;go_wp2
    go_ret
    exact⟨by have:=HV.out;subst this;rfl,U0.out.trans HH.out⟩
   ·obtain⟨n,hn⟩:∃n,Zd uo yk=n:=⟨_,rfl⟩;rw[hn]at HW HV;clear hn;go_wp2;refine wp_region_noPanic ?_;refine wp_region_held_drew (S:=(fun W'=>Upd No wb W')) (by kernel_rfl) ?_ (fun hHeld=> ?_)
    ·(first|exact hr.drew|exact hHeld.trans hu9|exact hHeld)
    refine wpK 0 rfl ?_;refine wpK 1 rfl ?_;refine wpK 2 rfl ?_;refine wpK 3 rfl ?_;refine wpK 4 rfl ?_;refine wpK 5 rfl ?_;refine wpK 6 rfl ?_;refine wpK 7 rfl ?_;refine wpR [8] ?_;refine wpC rfl (fun K hK=> ?_) AllReadyH.nil;go_simp
    (first
  |(go_at_call 117;refine Calls.mono (HW.out _ hHeld) ?_;rintro r w9 ⟨rfl,hu9⟩))
    try (go_wp2_with fail)
    refine hK.out _ _ ?_ (fun hHeld=> ?_)
    ·(first|exact hr.drew|exact hHeld.trans hu9|exact hHeld)
    clear hK K
    try simp only[Act.put,sT,sS,sZ]
    refine wpK 9 rfl ?_;refine wpK 10 rfl ?_;refine wpK 11 rfl ?_;refine wpD (NoPanic.normal ?_);have HH:=Qh hHeld;go_wp2
    go_ret
    exact⟨by have:=HV.out;subst this;rfl,U0.out.trans HH.out⟩
  ·have q2:(p==2)=false:=by simpa using p2
   have q3:(p==3)=false:=by simpa using p3
   have HV:=Qh (show v=false by rw[←HV.out];unfold Zc8;rw[if_neg p2,if_neg p3]);clear p2 p3
   go_enter Tryz.func248,Tryz.ntmps248
   go_wp2
   go_ret
   exact⟨by have:=HV.out;subst this;rfl,U0.out⟩
theorem Zm1 (w:World) (key k0:Int) (p:Addr) (hp:w.cell? p=some (.int .i64 k0)):Calls Tryz.prog 181 #[.int .i64 key,.pointer (some p)] w fun e w'=>e= .returned (.bool (key==k0))∧Upd No w w':=by
 go_enter Tryz.func181,Tryz.ntmps181
 go_wp2
 go_ret
 exact⟨rfl,Upd.refl _ _⟩
theorem ZmJ (w:World):(zeroValue 81).run Tryz.prog w= .ok (.agg #[.int .i64 0,.bool false,.slice none 0 0]) w:=by kernel_rfl
theorem Zn6 {F:Nat→Prop} {w:World} {txs:List HTx} {m:List (Int×Value)} (h:ByM m txs) (ht:∀t∈txs,HOps F w t.A t.ops∧Zg t.ops.length) (i:Int):
  ∃ui uA uc,(Zz m i).getD (.agg #[.int .i64 0,.bool false,.slice none 0 0])= .agg #[.int .i64 ui,.bool (Zaw txs i),.slice uA (ZaN txs i).length uc]∧HOps F w uA (ZaN txs i)∧Zg (ZaN txs i).length:=by
 rw[h i];unfold Zaw ZaN
 cases hf:Ze txs i with
 |none=>exact⟨0,none,0,rfl,fun h=>absurd rfl h,by unfold Zg;simp⟩
 |some t=>
  have:=ht t (Zb7 hf);exact⟨t.id,t.A,t.c,rfl,this.1,this.2⟩
end
/- Reads that may not be:all of a history,those of a key;which one is ahead. -/
section
open Go.RowKit
set_option maxRecDepth 100000 in
set_option maxHeartbeats 8000000 in
theorem Znf (F:Nat→Prop) (w:World) (txs:List HTx) (ords:List HOrd) (A:Option Addr) (c:Nat) (B:Option Addr) (d:Nat) (q:Addr)(cnt:Int→Bool) (p:Int) (H:Hist.lies F w ⟨txs,ords,A,c,B,d⟩)
  (hc:Hid (∀W key,Upd No w W→Calls Tryz.prog 181 #[.int .i64 key,.pointer (some q)] W fun e w'=>e= .returned (.bool (cnt key))∧Upd No W w')):
  Calls Tryz.prog 180 #[.agg #[.slice A txs.length c,.slice B ords.length d],.int .i64 p,.func (.func 181) #[] #[.pointer (some q)]] w (ZeB w (Zd8 cnt ⟨txs,ords,A,c,B,d⟩ p)):=by
 have hmm:= @run_makeMap Tryz.prog;have u0:=(Upd.refl No w).alloc (.cells #[.slice A txs.length c,.slice B ords.length d] 29);have bH:=Qh (Blk.new w 29 [.slice A txs.length c,.slice B ords.length d]);obtain⟨b,hb⟩:∃b,Za ⟨txs,ords,A,c,B,d⟩=b:=⟨_,rfl⟩;have HR:=Qh (Zc9 (H.upd u0 (fun _ _=>id)) hb);have U0:=Qh u0;clear u0
 cases b
 ·have HV:=Qh (show([]:List HBad)=Zd8 cnt ⟨txs,ords,A,c,B,d⟩ p by unfold Zd8;rw[if_neg (by rw[hb];decide)]);clear hb
  go_enter Tryz.func180,Tryz.ntmps180
  go_wp2_with fail
  refine(HR.out).mono ?_;rintro e w1 ⟨rfl,hu1⟩;have HU:=Qh (U0.out.trans hu1);go_wp2
  go_ret
  exact⟨none,0,by rw[←HV.out];rfl,by rw[←HV.out];exact World.ownsRow_nil _ _ _ _,HU.out⟩
 ·have HV:=Qh (show Za1 (Z4 cnt txs p) [] txs=Zd8 cnt ⟨txs,ords,A,c,B,d⟩ p by unfold Zd8;rw[if_pos hb])
  have hmany:txs.length≤4096:=by
   unfold Za at hb;simp only[Bool.and_eq_true,decide_eq_true_eq]at hb;exact hb.1.1.1
  have hlen:=Qh (show∀t∈txs,t.ops.length≤4095 from fun t ht=>ZdL (Zbk hb ht).1);have HND:=Qh (show(txs.map (·.id)).Nodup from ZcR hb);have HTX:=Qh (fun(W:World) (u:Upd No w W)=>(show∀t∈txs,HOps F W t.A t.ops∧Zg t.ops.length from fun t ht=>⟨HOps.upd (H.tx t ht).1 u (fun _ _=>id),(H.tx t ht).2.2.1⟩));clear hb
  go_enter Tryz.func180,Tryz.ntmps180
  go_wp2_with fail
  refine(HR.out).mono ?_;rintro e w1 ⟨rfl,hu1⟩;have HU1:=Qh (U0.out.trans hu1);have BH:=Qh (bH.out.upd hu1 id);obtain⟨wb,hwb⟩:∃wb,w1.alloc (.map #[] 0)=wb:=⟨_,rfl⟩;have ub:Upd No w1 wb:=by rw[←hwb];exact(Upd.refl No w1).alloc _
  have HM0:Hid (MapIs wb w1.heap.size (fun n:Int=>Value.int .i64 n) []):=Qh (by rw[←hwb];exact MapIs.new w1 _);have HU:=Qh (HU1.out.trans ub);have hbw:=BH.out.lt;have hww:=HU1.out.size;have BHb:=Qh (BH.out.upd ub id);obtain⟨bm,hbm⟩:∃bm,w1.heap.size=bm:=⟨_,rfl⟩;have g0:∀W,Upd (One bm) wb W→W.cell? ⟨w.heap.size,0,none⟩=some (.slice A txs.length c):=fun W u=>by have:=(BHb.out.upd u (by unfold One;omega)).cell 0;simpa using this
  have hbz:Upd (One bm) wb wb:=Upd.refl _ _;have hnb:∀i,One bm i→w.heap.size≤i:=fun i e=>by unfold One at e;omega
  rw[hbm]at HM0;have HNB:=Qh hnb;have HNE:=Qh (show¬One bm w.heap.size from fun e=>by unfold One at e;omega);clear hu1 ub hnb;go_wp2;clear hmm hwb hbm hww hbw
  go_loopg [23] txs.length (fun gk i wr=>∃(k:Nat) (m:List (Int×Value)),k+gk=txs.length∧i= .int .i64 k∧Hid (MapIs wr bm (fun n:Int=>Value.int .i64 n) m∧ByM m (txs.take k))∧Upd (One bm) wb wr)
  case atStart=>exact⟨0,[],by omega,rfl,Qh ⟨HM0.out,fun i=>rfl⟩,hbz⟩
  case round=>
   obtain⟨k,m,hgk,rfl,hm,hu1⟩:=hrel;have hu:=HU.out.then_ hu1 (fun i e=>Or.inr (HNB.out i e))
   by_cases hlt:k<txs.length
   ·obtain⟨ad,hAd,q0,q1,q2⟩:=(H.upd hu (fun _ _=>id)).tx_at hlt;simp only at hAd q0 q1 q2;have hfn:=ZjI HND.out hlt;obtain⟨x,hx⟩:∃x,txs[k]=x:=⟨_,rfl⟩;have htk:txs.take (k+1)=txs.take k++[x]:=by rw[List.take_succ_eq_append_getElem hlt,hx]
    rw[hx]at q0 q1 q2 hfn;obtain⟨xi,xd,xo,xA,xc⟩:=x;simp only at q0 q1 q2 hfn;subst hAd;have HPUT:=Qh (show ByM (Zs m xi (.agg #[.int .i64 xi,.bool xd,.slice xA xo.length xc])) (txs.take (k+1)) by rw[htk];exact hm.out.2.put ⟨xi,xd,xo,xA,xc⟩ hfn);have b1:(0:Int)≤(k:Int):=Qn _;have b2:(k:Int)<(txs.length:Int):=by omega
    obtain⟨wx,hwx⟩:∃wx,wr.alloc (.cells #[.int .i64 xi,.bool xd,.slice xA xo.length xc] 81)=wx:=⟨_,rfl⟩;have ux:Upd No wr wx:=by rw[←hwx];exact(Upd.refl No wr).alloc _
    have bo:Blk wx wr.heap.size 81 [.int .i64 xi,.bool xd,.slice xA xo.length xc]:=by rw[←hwx];exact Blk.new wr _ _
    have t0:=bo.cell 0;have t1:=bo.cell 1;have t2:=bo.cell 2;simp only[Qz,Qs]at t0 t1 t2;have hmx:=hm.out.1.upd ux id;have HUX:=Qh (hu1.trans (ux.mono (fun _ _ e=>e.elim)));clear hx htk hfn bo ux hu
    go_wp2_with (at_mapUpdate;refine ZkG rfl rfl ZcA Tryz.underlying161 (a:=xi) (val:= .agg #[.int .i64 xi,.bool xd,.slice xA xo.length xc]) (by rfl) (by rfl) (by rfl) hmx ?_;intro w5 hm5 hu5)
    go_roundg (gk-1)
    case measure=>omega
    case rel=>exact⟨k+1,_,by omega,by go_num,Qh ⟨hm5,HPUT.out⟩,HUX.out.trans hu5⟩
   ·obtain rfl:k=txs.length:=by omega
    have HM:=Qh (show MapIs wr bm (fun n:Int=>Value.int .i64 n) m from hm.out.1);have HB:=Qh (show ByM m txs by have:=hm.out.2;rwa [List.take_length]at this);obtain⟨wm,hwm⟩:∃wm,wm=wr:=⟨_,rfl⟩;subst hwm;have HUM:=Qh hu;have hzw:=hu.size;have hbl:=HM.out.lt;have BM:=Qh (BHb.out.upd hu1 HNE.out);have g00:=g0 _ hu1;clear hm g0 hbz hu hu1 HM0 HU HU1
    generalize gk=GK at*
    go_wp2;clear g00
    go_loopg [7,35] txs.length (fun gk s i wr=>∃(k:Nat) (A3:Option Addr) (c3:Nat) (xs:List HBad),k+gk=txs.length∧i= .int .i64 k∧s= .slice A3 xs.length c3∧Hid (Za1 (Z4 cnt txs p) xs (txs.drop k)=Za1 (Z4 cnt txs p) [] txs)∧xs.length≤4095*k∧
     Hid (wr.ownsRow wm.heap.size 38 5 (.slice A3 xs.length c3) xs.length (xs.map HBad.cells).flatten)∧Upd No wm wr)
    case atStart=>exact⟨0,none,0,[],by omega,rfl,rfl,Qh rfl,by simp,Qh (World.ownsRow_nil _ _ _ _),Upd.refl _ _⟩
    case round=>
     obtain⟨k,A3,c3,xs,hgk,rfl,rfl,hs,hxl,hown,hu1⟩:=hrel
     by_cases hlt:k<txs.length
     ·have hu:=HUM.out.trans hu1;obtain⟨ad,hAd,q0,q1,q2⟩:=(H.upd hu (fun _ _=>id)).tx_at hlt;have hlo:=H.tx txs[k] (List.getElem_mem hlt);simp only at hAd q0 q1 q2;obtain⟨x,hx⟩:∃x,txs[k]=x:=⟨_,rfl⟩;rw[hx]at q0 q1 q2 hlo;obtain⟨xi,xd,xo,xA,xc⟩:=x;simp only at q0 q1 q2;subst hAd;have X:=Qh (show txs.drop k=⟨xi,xd,xo,xA,xc⟩::txs.drop (k+1) by rw[←hx];exact List.drop_eq_getElem_cons hlt);have HL:=Qh hlo;have hol:=hlen.out _ (show(⟨xi,xd,xo,xA,xc⟩:HTx)∈txs by rw[←hx];exact List.getElem_mem hlt);simp only at hol;have b1:(0:Int)≤(k:Int):=Qn _;have b2:(k:Int)<(txs.length:Int):=by omega
      have hst:=hs.out;rw[X.out,ZkZ]at hst;have HST:=Qh hst;obtain⟨wx,hwx⟩:∃wx,wr.alloc (.cells #[.int .i64 xi,.bool xd,.slice xA xo.length xc] 81)=wx:=⟨_,rfl⟩;have ux:Upd No wr wx:=by rw[←hwx];exact(Upd.refl No wr).alloc _
      have BT:Hid (Blk wx wr.heap.size 81 [.int .i64 xi,.bool xd,.slice xA xo.length xc]):=Qh (by rw[←hwx];exact Blk.new wr _ _);have UA:=Qh (hu1.trans ux);have HO:=Qh (Zb hown.out ux (fun _ _=>id));have hzr:=hu1.size;have HXS:=Qh (show wx.heap.size=wr.heap.size+1 by rw[←hwx];simp);have HOL:=Qh (fun i e=>hown.out.lt i e);obtain⟨S,hS⟩:∃S,S=Own (.slice A3 xs.length c3):=⟨_,rfl⟩;have HSO:=Qh (show∀i,Own (.slice A3 xs.length c3) i→S i by rw[hS];exact fun _=>id);have HSB:=Qh (show∀i,S i→wm.heap.size≤i∧i<wr.heap.size by rw[hS];exact fun i e=>HOL.out i e);clear hS hst hx hlo ux hu;have HW2:=Qh fun W (hW:Upd S wx W)=>(show Upd No wm W from UA.out.then_ hW fun i e=> .inr (HSB.out i e).1)
      have HW1:=Qh fun W (hW:Upd S wx W)=>HUM.out.trans (HW2.out W hW)
      have hnT:¬S wr.heap.size:=fun e=>by have:=(HSB.out _ e).2;omega
      have hnM:¬S bm:=fun e=>by have:=(HSB.out _ e).1;omega
      have HLK:=Qh fun W (hW:Upd S wx W) tx=>Zm ZcA Tryz.underlying161 ZmJ ((HM.out.upd UA.out id).upd hW hnM) tx
      have t0:∀W,Upd S wx W→W.cell? ⟨wr.heap.size,0,none⟩=some (.int .i64 xi):=fun W hW=>(BT.out.upd hW hnT).cell 0
      have t1:∀W,Upd S wx W→W.cell? ⟨wr.heap.size,1,none⟩=some (.bool xd):=fun W hW=>(BT.out.upd hW hnT).cell 1
      have t2:∀W,Upd S wx W→W.cell? ⟨wr.heap.size,2,none⟩=some (.slice xA xo.length xc):=fun W hW=>(BT.out.upd hW hnT).cell 2
      have hrefl:Upd S wx wx:=Upd.refl _ _;have hmul:4095*k≤4095*4096:=Nat.mul_le_mul_left _ (by omega);clear UA BT;obtain⟨wo,hwo⟩:∃wo,wo=wr:=⟨_,rfl⟩;subst hwo
      generalize gk=m0 at*
      go_wp2
      go_loopg [7,42] xo.length (fun gm s i wr=>∃(j:Nat) (A4:Option Addr) (c4:Nat) (ys:List HBad),j+gm=xo.length∧i= .int .i64 j∧s= .slice A4 ys.length c4∧Hid (ZR (Z4 cnt txs p) ⟨xi,xd,xo,xA,xc⟩ j ys (xo.drop j)=ZR (Z4 cnt txs p) ⟨xi,xd,xo,xA,xc⟩ 0 xs xo)∧ys.length≤xs.length+j∧
       Hid (wr.ownsRow wm.heap.size 38 5 (.slice A4 ys.length c4) ys.length (ys.map HBad.cells).flatten)∧Hid (∀i,Own (.slice A4 ys.length c4) i→S i∨wo.heap.size+1≤i)∧Upd S wx wr)
      case atStart=>exact⟨0,A3,c3,xs,by omega,rfl,rfl,Qh rfl,by omega,HO,Qh (fun i e=> .inl (HSO.out i e)),hrefl⟩
      case round=>
       obtain⟨j,A4,c4,ys,hgm,rfl,rfl,hs2,hyl,hown2,hgr2,hu2⟩:=hrel;clear hrefl
       by_cases hlt2:j<xo.length
       ·obtain⟨ad2,hAd2,q0,q1,q2,q3⟩:=(HOps.upd HL.out.1 (HW1.out _ hu2) (fun _ _=>id)).at_ hlt2;obtain⟨x,hx⟩:∃x,xo[j]=x:=⟨_,rfl⟩;rw[hx]at q0 q1 q2 q3;obtain⟨rd,ky,tx,nt⟩:=x;simp only at q0 q1 q2 q3;subst hAd2
        have hst:ZR (Z4 cnt txs p) ⟨xi,xd,xo,some ad2,xc⟩ (j+1) (if Z4 cnt txs p ⟨xi,xd,xo,some ad2,xc⟩ ⟨rd,ky,tx,nt⟩=true then ys++[⟨xi,(j:Int),Zp ⟨rd,ky,tx,nt⟩⟩] else ys) (xo.drop (j+1))=ZR (Z4 cnt txs p) ⟨xi,xd,xo,some ad2,xc⟩ 0 xs xo:=by
         have:=hs2.out;rw[show xo.drop j=⟨rd,ky,tx,nt⟩::xo.drop (j+1) by rw[←hx];exact List.drop_eq_getElem_cons hlt2,ZkY]at this;exact this
        have HS2:=Qh hst;have c1:(0:Int)≤(j:Int):=Qn _;have c2:(j:Int)<(xo.length:Int):=by omega
        obtain⟨wy,hwy⟩:∃wy,wr.alloc (.cells #[.bool rd,.int .i64 ky,.int .i64 tx,.int .i64 nt] 95)=wy:=⟨_,rfl⟩;have uy:Upd No wr wy:=by rw[←hwy];exact(Upd.refl No wr).alloc _
        have hub:Upd S wx wy:=hu2.noR uy;have bo:Blk wy wr.heap.size 95 [.bool rd,.int .i64 ky,.int .i64 tx,.int .i64 nt]:=by rw[←hwy];exact Blk.new wr _ _
        have o0:∀W,Upd No wy W→W.cell? ⟨wr.heap.size,0,none⟩=some (.bool rd):=fun W u=>(bo.upd u id).cell 0
        have o1:∀W,Upd No wy W→W.cell? ⟨wr.heap.size,1,none⟩=some (.int .i64 ky):=fun W u=>(bo.upd u id).cell 1
        have o2:∀W,Upd No wy W→W.cell? ⟨wr.heap.size,2,none⟩=some (.int .i64 tx):=fun W u=>(bo.upd u id).cell 2
        have o3:∀W,Upd No wy W→W.cell? ⟨wr.heap.size,3,none⟩=some (.int .i64 nt):=fun W u=>(bo.upd u id).cell 3
        have hyz:Upd No wy wy:=Upd.refl _ _;have BO:=Qh bo;have HO2:=Qh (Zb hown2.out uy (fun _ _=>id));have HLT:=Qh (fun i e=>hown2.out.lt i e);have hz2:=hu2.size;have hzq:=(HW2.out _ hu2).size;have hxs:=HXS.out;have HUB:=Qh hub;clear hst hx bo uy hs2
        cases rd
        ·have HS:=Qh (show ZR (Z4 cnt txs p) ⟨xi,xd,xo,some ad2,xc⟩ (j+1) ys (xo.drop (j+1))=ZR (Z4 cnt txs p) ⟨xi,xd,xo,some ad2,xc⟩ 0 xs xo by have:=HS2.out;rwa [if_neg (by simp[Z4])]at this);go_wp2
         go_roundg (gk-1)
         case measure=>omega
         case rel=>exact⟨j+1,A4,c4,ys,by omega,by go_num,rfl,HS,by omega,HO2,hgr2,HUB.out⟩
        by_cases k0:tx=0
        ·subst k0;have HS:=Qh (show ZR (Z4 cnt txs p) ⟨xi,xd,xo,some ad2,xc⟩ (j+1) ys (xo.drop (j+1))=ZR (Z4 cnt txs p) ⟨xi,xd,xo,some ad2,xc⟩ 0 xs xo by have:=HS2.out;rwa [if_neg (by simp[Z4])]at this);go_wp2
         go_roundg (gk-1)
         case measure=>omega
         case rel=>exact⟨j+1,A4,c4,ys,by omega,by go_num,rfl,HS,by omega,HO2,hgr2,HUB.out⟩
        have f0:(tx==0)=false:=by simpa using k0
        by_cases ki:tx=xi
        ·subst ki;have HS:=Qh (show ZR (Z4 cnt txs p) ⟨tx,xd,xo,some ad2,xc⟩ (j+1) ys (xo.drop (j+1))=ZR (Z4 cnt txs p) ⟨tx,xd,xo,some ad2,xc⟩ 0 xs xo by have:=HS2.out;rwa [if_neg (by simp[Z4])]at this);go_wp2
         go_roundg (gk-1)
         case measure=>omega
         case rel=>exact⟨j+1,A4,c4,ys,by omega,by go_num,rfl,HS,by omega,HO2,hgr2,HUB.out⟩
        have f1:(tx==xi)=false:=by simpa using ki
        obtain⟨cv,hcv⟩:∃cv,cnt ky=cv:=⟨_,rfl⟩;have CC:=Qh (show Calls Tryz.prog 181 #[.int .i64 ky,.pointer (some q)] wy fun e w'=>e= .returned (.bool cv)∧Upd No wy w' by rw[←hcv];exact hc.out wy ky (HW1.out _ hub));have HK:=Qh (show∀jb,Zc8 p xd (Zaw txs tx) nt (Zd (ZaN txs tx) ky)=jb→Z4 cnt txs p ⟨xi,xd,xo,some ad2,xc⟩ ⟨true,ky,tx,nt⟩=(cv&&jb) from fun jb hj=>by unfold Z4;simp only;rw[f0,f1,hcv,hj];rfl);clear hcv k0 ki
        cases cv
        ·have HG:=Qh (HK.out _ rfl);simp only[Bool.false_and]at HG;have HS:=Qh (show ZR (Z4 cnt txs p) ⟨xi,xd,xo,some ad2,xc⟩ (j+1) ys (xo.drop (j+1))=ZR (Z4 cnt txs p) ⟨xi,xd,xo,some ad2,xc⟩ 0 xs xo by have:=HS2.out;rwa [HG.out,if_neg (by decide)]at this)
         go_wp2_with fail
         refine(CC.out).mono ?_;rintro e w3 ⟨rfl,hu3⟩;have HO3:=Qh (Zb HO2.out hu3 (fun _ _=>id));have HU3:=Qh (hub.noR hu3);go_wp2
         go_roundg (gk-1)
         case measure=>omega
         case rel=>exact⟨j+1,A4,c4,ys,by omega,by go_num,rfl,HS,by omega,HO3,hgr2,HU3.out⟩
        ·go_wp2_with fail
         refine(CC.out).mono ?_;rintro e w3 ⟨rfl,hu3⟩;have h3:Upd S wx w3:=hub.noR hu3;have hw3:=HW1.out _ h3;obtain⟨ui,uA,uc,hval,hops,hfew⟩:=Zn6 HB.out (HTX.out _ hw3) tx;have e1:=HLK.out w3 h3 tx;rw[hval]at e1;obtain⟨jb,hjb⟩:∃jb,Zc8 p xd (Zaw txs tx) nt (Zd (ZaN txs tx) ky)=jb:=⟨_,rfl⟩;have HG:=Qh (HK.out _ hjb);have CJ:=Qh (ZnP F w3 xi xd (some ad2) xo.length xc ui (Zaw txs tx) uA uc (ZaN txs tx) true ky tx nt p hops hfew hjb);obtain⟨ub,hub2⟩:∃ub,Zaw txs tx=ub:=⟨_,rfl⟩;obtain⟨un,hun⟩:∃un,(ZaN txs tx).length=un:=⟨_,rfl⟩;rw[hub2,hun]at e1 CJ;clear hval hops hfew hjb hub2 hun hw3;have HO3:=Qh (Zb HO2.out hu3 (fun _ _=>id));change (Instr.lookup 161 (.map (some bm)) (.int .i64 tx) false).run Tryz.prog w3= .ok (.agg #[.int .i64 ui,.bool ub,.slice uA un uc]) w3 at e1
         go_wp2_with fail
         refine(CJ.out).mono ?_;rintro e w4 ⟨rfl,hu4⟩;have h4:Upd S wx w4:=h3.noR hu4;have HO4:=Qh (Zb HO3.out hu4 (fun _ _=>id));have HU4:=Qh h4;have BO4:=Qh (BO.out.upd (hu3.trans hu4) id);have hz4:=(hu3.trans hu4).size;have hzy:wr.heap.size<wy.heap.size:=BO.out.lt
         cases jb
         ·have HS:=Qh (show ZR (Z4 cnt txs p) ⟨xi,xd,xo,some ad2,xc⟩ (j+1) ys (xo.drop (j+1))=ZR (Z4 cnt txs p) ⟨xi,xd,xo,some ad2,xc⟩ 0 xs xo by have:=HS2.out;rwa [HG.out,if_neg (by decide)]at this);go_wp2
          go_roundg (gk-1)
          case measure=>omega
          case rel=>exact⟨j+1,A4,c4,ys,by omega,by go_num,rfl,HS,by omega,HO4,hgr2,HU4.out⟩
         ·have HS:=Qh (show ZR (Z4 cnt txs p) ⟨xi,xd,xo,some ad2,xc⟩ (j+1) (ys++[⟨xi,(j:Int),⟨tx,ky,nt⟩⟩]) (xo.drop (j+1))=ZR (Z4 cnt txs p) ⟨xi,xd,xo,some ad2,xc⟩ 0 xs xo by have:=HS2.out;rwa [HG.out,if_pos (by decide)]at this);have hnO:¬Own (.slice A4 ys.length c4) wr.heap.size:=fun e=>by have:=(HLT.out _ e).2;omega
          have hnT4:¬Own (.slice A4 ys.length c4) wo.heap.size:=fun e=>by
           rcases hgr2.out _ e with e|e
           ·exact hnT e
           ·omega
          have p0:∀W,Upd (Own (.slice A4 ys.length c4)) w4 W→W.cell? ⟨wr.heap.size,0,none⟩=some (.bool true):=fun W hW=>(BO4.out.upd hW hnO).cell 0
          have p1:∀W,Upd (Own (.slice A4 ys.length c4)) w4 W→W.cell? ⟨wr.heap.size,1,none⟩=some (.int .i64 ky):=fun W hW=>(BO4.out.upd hW hnO).cell 1
          have p2:∀W,Upd (Own (.slice A4 ys.length c4)) w4 W→W.cell? ⟨wr.heap.size,2,none⟩=some (.int .i64 tx):=fun W hW=>(BO4.out.upd hW hnO).cell 2
          have p3:∀W,Upd (Own (.slice A4 ys.length c4)) w4 W→W.cell? ⟨wr.heap.size,3,none⟩=some (.int .i64 nt):=fun W hW=>(BO4.out.upd hW hnO).cell 3
          have s0:∀W,Upd (Own (.slice A4 ys.length c4)) w4 W→W.cell? ⟨wo.heap.size,0,none⟩=some (.int .i64 xi):=fun W hW=>hW.keep (t0 _ HU4.out) hnT4
          clear t0 t1 t2 o0 o1 o2 o3 hub hyz h3 h4 hu3 hu4 e1;go_wp2;refine wp_region_noPanic ?_;refine wp_region_held_drew (S:=(fun w'=>Upd (Own (.slice A4 ys.length c4)) w4 w')) (by kernel_rfl) ?_ (fun hHeld=> ?_)
          ·(first|exact(Upd.refl _ _).drew|exact hHeld.noR hu5|exact hHeld.alloc _|exact hU6)
          refine wpK 0 rfl ?_;refine wpK 1 rfl ?_;refine wpK 2 rfl ?_;refine wpK 3 rfl ?_;refine wpK 4 rfl ?_;refine wpR [5] ?_;refine wpC rfl (fun K hK=> ?_) AllReadyH.nil;go_simp
          (first
  |(go_at_call 201;refine(Zo9 _ ky tx nt).mono ?_;rintro e w5 ⟨rfl,hu5⟩;have ho5:=Zb HO4.out hu5.of_drew (fun _ _=>id);have hz5:=hu5.of_drew.size))
          try (go_wp2_with fail)
          refine hK.out _ _ ?_ (fun hHeld=> ?_)
          ·(first|exact(Upd.refl _ _).drew|exact hHeld.noR hu5|exact hHeld.alloc _|exact hU6)
          clear hK K
          try simp only[Act.put,sT,sS,sZ]
          refine wpK 6 rfl ?_;refine wpR [7] ?_;refine wpC rfl (fun K hK=> ?_) AllReadyH.nil;go_simp;refine hK.out _ _ ?_ (fun hHeld=> ?_)
          ·(first|exact(Upd.refl _ _).drew|exact hHeld.noR hu5|exact hHeld.alloc _|exact hU6)
          clear hK K
          try simp only[Act.put,sT,sS,sZ]
          refine wpR [8] ?_;refine wpC rfl (fun K hK=> ?_) AllReadyH.nil
          (first
  |(refine Zb1 (by rfl) (by rfl) Zcs (v:= .slice A4 ys.length c4) (cells:=[.int .i64 xi,.int .i64 (j:Int),.int .i64 tx,.int .i64 ky,.int .i64 nt]) (by rfl) (by rfl) (by exact ho5.alloc _) rfl (by exact ZbO) (by rfl) (by omega) (by omega) (by simp;omega) ?_;intro g6 c6 w6 hown6 hu6 hg6 hlt6;have hU6:Upd (Own (.slice A4 ys.length c4)) w4 w6:=hHeld.trans hu6))
          refine hK.out _ _ ?_ (fun hHeld=> ?_)
          ·(first|exact(Upd.refl _ _).drew|exact hHeld.noR hu5|exact hHeld.alloc _|exact hU6)
          clear hK K
          try simp only[Act.put,sT,sS,sZ]
          refine wpK 9 rfl ?_;refine wpD (NoPanic.normal ?_)
          have HU6:=Qh (HU4.out.then_ hHeld fun i e=>by
           rcases hgr2.out i e with e|e
           ·exact .inl e
           ·exact .inr (by omega))
          have HG6:=Qh (show∀i,Own (.slice (some ⟨g6,0,none⟩) (ys.length+1) c6) i→S i∨wo.heap.size+1≤i from fun i e=>by
           rcases hg6 with h|⟨k6,hk6,hlk⟩
           ·exact hgr2.out i (h.symm.trans e)
           ·have e2:(some k6:Option Nat)=some i:=hk6.symm.trans e
            cases e2
            simp only[World.size_alloc]at hlk;exact .inr (by omega))
          clear hHeld p0 p1 p2 p3 s0 hg6;go_wp2
          go_roundg (gk-1)
          case measure=>omega
          case rel=>exact⟨j+1,some ⟨g6,0,none⟩,c6,ys++[⟨xi,(j:Int),⟨tx,ky,nt⟩⟩],by omega,by go_num,by simp,HS,by simp;omega,Qh (by simpa[HBad.cells]using hown6),Qh (by simpa using HG6.out),HU6.out⟩
       ·obtain rfl:j=xo.length:=by omega
        have HS:=Qh (show Za1 (Z4 cnt txs p) ys (txs.drop (k+1))=Za1 (Z4 cnt txs p) [] txs by
         have:=hs2.out;rw[List.drop_length]at this;rw[←HST.out,←this];rfl)
        go_wp2
        go_roundg (m0-1)
        case measure=>omega
        case rel=>exact⟨k+1,A4,c4,ys,by omega,by go_num,rfl,HS,by omega,hown2,HW2.out _ hu2⟩
     ·obtain rfl:k=txs.length:=by omega
      have HS:=Qh (show xs=Zd8 cnt ⟨txs,ords,A,c,B,d⟩ p by rw[←HV.out,←hs.out,List.drop_length];rfl);go_wp2
      go_ret
      exact⟨A3,c3,by rw[←HS.out];rfl,by rw[←HS.out];exact ZK hown.out hzw,HUM.out.trans hu1⟩
set_option maxRecDepth 100000 in
theorem Zkz (F:Nat→Prop) (w:World) (txs:List HTx) (ords:List HOrd) (A:Option Addr) (c:Nat) (B:Option Addr) (d:Nat) (p key:Int) (H:Hist.lies F w ⟨txs,ords,A,c,B,d⟩):
  Calls Tryz.prog 88 #[.agg #[.slice A txs.length c,.slice B ords.length d],.int .i64 p,.int .i64 key] w (ZeB w ((Z3 ⟨txs,ords,A,c,B,d⟩ p).filter fun b=>b.of.key==key)):=by
 obtain⟨w1,hw1⟩:∃w1,w.alloc (.cells #[.slice A txs.length c,.slice B ords.length d] 29)=w1:=⟨_,rfl⟩;have s1:w1.heap.size=w.heap.size+1:=by rw[←hw1];simp
 obtain⟨wb,hwb⟩:∃wb,w1.alloc (.cells #[.int .i64 key] 3)=wb:=⟨_,rfl⟩;have u1:Upd No w w1:=by rw[←hw1];exact(Upd.refl No w).alloc _
 have u2:Upd No w1 wb:=by rw[←hwb];exact(Upd.refl No w1).alloc _
 have bH:Blk wb w.heap.size 29 [.slice A txs.length c,.slice B ords.length d]:=Blk.upd (S:=No) (by rw[←hw1];exact Blk.new w _ _) u2 id;have bK:Blk wb (w.heap.size+1) 3 [.int .i64 key]:=by rw[←hwb,←s1];exact Blk.new w1 _ _
 have g0:=bH.cell 0;have g1:=bH.cell 1;simp only[Qz,Qs]at g0 g1;have HG:=Qh (Znf F wb txs ords A c B d ⟨w.heap.size+1,0,none⟩ (fun k=>k==key) p (H.upd (u1.trans u2) (fun _ _=>id)) (Qh fun W k u=>Zm1 W k key _ ((bK.upd u id).cell 0)));rw[Zng]at HG;have U0:=Qh (u1.trans u2);clear bH u1 u2 bK
 go_enter Tryz.func88,Tryz.ntmps88
 go_wp2_with fail
 refine(HG.out).mono ?_;rintro e w2 ⟨A1,c1,rfl,ho,hu⟩;go_wp2
 go_ret
 exact⟨A1,c1,rfl,ZK ho U0.out.size,U0.out.trans hu⟩
/-! which one is ahead -/
def Za0:List Int→List Int→Int
 |x::xs,y::ys=>if Zx x y=0 then Za0 xs ys else Zx x y
 |_,_=>0
def Zj0 (b:HBad):List Int:=[b.tx,b.place,b.of.tx,b.of.key,b.of.nth]
def Zw (a b:HBad):Bool:=
 if a.tx≠b.tx then decide (a.tx<b.tx) else if a.place≠b.place then decide (a.place<b.place) else if a.of.tx≠b.of.tx then decide (a.of.tx<b.of.tx)
 else if a.of.key≠b.of.key then decide (a.of.key<b.of.key) else decide (a.of.nth<b.of.nth)
end
/- Reads that may not be:which one is ahead,the program's and the document's. -/
section
open Go.RowKit
theorem Zb5 (x y:Int) (xs ys:List Int):decide (Za0 (x::xs) (y::ys)<0)=if x≠y then decide (x<y) else decide (Za0 xs ys<0):=by
 by_cases h:x=y
 ·subst h;have:Za0 (x::xs) (x::ys)=Za0 xs ys:=by show(if Zx x x=0 then Za0 xs ys else Zx x x)=_;rw[ZaY,if_pos rfl]
  rw[this,if_neg (by simp)]
 ·have:Za0 (x::xs) (y::ys)=Zx x y:=by show(if Zx x y=0 then Za0 xs ys else Zx x y)=_;rw[if_neg (Za2 h).1]
  rw[this,if_pos h,(Za2 h).2]
theorem ZlY (a b:HBad):decide (Za0 (Zj0 a) (Zj0 b)<0)=Zw a b:=by
 unfold Zj0 Zw;rw[Zb5,Zb5,Zb5,Zb5,Zb5]
 by_cases h5:a.of.nth=b.of.nth
 ·have:decide (Za0 [] []<0)=false:=by decide
  rw[this,h5];simp
 ·rw[if_pos h5]
set_option maxRecDepth 100000 in
theorem Zlz (w:World) (F G:Nat→Prop) (A B:Option Addr) (c d:Nat) (xs ys:List Int) (hx:Ints F w A xs) (hy:Ints G w B ys) (he:xs.length=ys.length) (hl:xs.length≤1000):
  Calls Tryz.prog 257 #[.slice A xs.length c,.slice B ys.length d] w fun e w'=>e= .returned (.int .i64 (Za0 xs ys))∧w=w':=by
 have HX:=Qh hx;have HY:=Qh hy;have HE:=Qh he;clear hx hy he
 go_enter Tryz.func257,Tryz.ntmps257
 go_wp2
 go_loopg [11] xs.length (fun gk i wr=>∃k:Nat,k+gk=xs.length∧i= .int .i64 k∧Hid (Za0 (xs.drop k) (ys.drop k)=Za0 xs ys)∧w=wr)
 case atStart=>exact⟨0,by omega,rfl,Qh rfl,rfl⟩
 case round=>
  obtain⟨k,hgk,rfl,hs,rfl⟩:=hrel
  by_cases hlt:k<xs.length
  ·have hlt2:k<ys.length:=by rw[←HE.out];exact hlt
   obtain⟨a1,hA,_,_,q0⟩:=HX.out.at_ hlt;obtain⟨a2,hB,_,_,q1⟩:=HY.out.at_ hlt2;obtain⟨x,hxx⟩:∃x,xs[k]=x:=⟨_,rfl⟩;obtain⟨y,hyy⟩:∃y,ys[k]=y:=⟨_,rfl⟩;have hst:=hs.out;rw[List.drop_eq_getElem_cons hlt,List.drop_eq_getElem_cons hlt2,hxx,hyy,Za0]at hst;rw[hxx]at q0;rw[hyy]at q1;subst hA hB;have b1:(0:Int)≤(k:Int):=Qn _;have b2:(k:Int)<(xs.length:Int):=by omega
   have b3:(k:Int)<(ys.length:Int):=by omega
   have b4:decide (ys.length≤k)=false:=decide_eq_false (by omega);obtain⟨C,hC⟩:∃C,Zx x y=C:=⟨_,rfl⟩;have CC:=Qh (Zau w x y);rw[hC]at CC hst;clear hxx hyy hC
   by_cases h0:C=0
   ·subst h0;have HS:=Qh (show Za0 (xs.drop (k+1)) (ys.drop (k+1))=Za0 xs ys by rw[←hst,if_pos rfl]);clear hst
    go_wp2_with fail
    refine(CC.out).mono ?_;rintro e w1 ⟨rfl,rfl⟩;go_wp2
    go_roundg (gk-1)
    case measure=>omega
    case rel=>exact⟨k+1,by omega,by go_num,HS,rfl⟩
   ·have HS:=Qh (show C=Za0 xs ys by rw[←hst,if_neg h0]);have hb:(C != 0)=true:=by simpa using h0
    clear hst h0
    go_wp2_with fail
    refine(CC.out).mono ?_;rintro e w1 ⟨rfl,rfl⟩;go_wp2
    go_ret
    exact⟨by rw[←HS.out];rfl,rfl⟩
  ·obtain rfl:k=xs.length:=by omega
   have hst:=hs.out;rw[List.drop_length,List.drop_eq_nil_of_le (by rw[HE.out];exact Nat.le_refl _)]at hst;have HS:=Qh (show(0:Int)=Za0 xs ys from hst);have hn:decide (xs.length<ys.length)=false:=decide_eq_false (by rw[HE.out];exact Nat.lt_irrefl _);clear hst hs;go_wp2
   go_ret
   exact⟨by rw[←HS.out];rfl,rfl⟩
end
/- Reads that may not be:which one is ahead,walked. -/
section
open Go.RowKit
set_option maxRecDepth 100000 in
set_option maxHeartbeats 1000000 in
theorem Zkx (w:World) (a b:HBad):Calls Tryz.prog 184 #[.agg a.cells.toArray,.agg b.cells.toArray] w fun e w'=>e= .returned (.bool (Zw a b))∧Grw w w':=by
 rw[←ZlY];unfold Zj0;obtain⟨ax,ap,⟨at_,ak,an⟩⟩:=a;obtain⟨bx,bp,⟨bt,bk,bn⟩⟩:=b;unfold HBad.cells;simp only;obtain⟨z,hz⟩:∃z,w.heap.size=z:=⟨_,rfl⟩;obtain⟨w1,hw1⟩:∃w1,w.alloc (.cells #[.int .i64 ax,.int .i64 ap,.int .i64 at_,.int .i64 ak,.int .i64 an] 38)=w1:=⟨_,rfl⟩;have s1:w1.heap.size=z+1:=by rw[←hw1,←hz];simp
 obtain⟨w2,hw2⟩:∃w2,w1.alloc (.cells #[.int .i64 bx,.int .i64 bp,.int .i64 bt,.int .i64 bk,.int .i64 bn] 38)=w2:=⟨_,rfl⟩;have s2:w2.heap.size=z+1+1:=by rw[←hw2,←s1];simp
 have u1:Upd No w w1:=by rw[←hw1];exact(Upd.refl No w).alloc _
 have u2:Upd No w1 w2:=by rw[←hw2];exact(Upd.refl No w1).alloc _
 have b1:Blk w1 z 38 [.int .i64 ax,.int .i64 ap,.int .i64 at_,.int .i64 ak,.int .i64 an]:=by rw[←hw1,←hz];exact Blk.new w _ _
 have b2:Blk w2 (z+1) 38 [.int .i64 bx,.int .i64 bp,.int .i64 bt,.int .i64 bk,.int .i64 bn]:=by rw[←hw2,←s1];exact Blk.new w1 _ _
 have x0:∀W,Upd No w2 W→W.cell? ⟨z,0,none⟩=some (.int .i64 ax):=fun W u=>(b1.upd (u2.trans u) id).cell 0
 have x1:∀W,Upd No w2 W→W.cell? ⟨z,1,none⟩=some (.int .i64 ap):=fun W u=>(b1.upd (u2.trans u) id).cell 1
 have x2:∀W,Upd No w2 W→W.cell? ⟨z,2,none⟩=some (.int .i64 at_):=fun W u=>(b1.upd (u2.trans u) id).cell 2
 have x3:∀W,Upd No w2 W→W.cell? ⟨z,3,none⟩=some (.int .i64 ak):=fun W u=>(b1.upd (u2.trans u) id).cell 3
 have x4:∀W,Upd No w2 W→W.cell? ⟨z,4,none⟩=some (.int .i64 an):=fun W u=>(b1.upd (u2.trans u) id).cell 4
 have y0:∀W,Upd No w2 W→W.cell? ⟨z+1,0,none⟩=some (.int .i64 bx):=fun W u=>(b2.upd u id).cell 0
 have y1:∀W,Upd No w2 W→W.cell? ⟨z+1,1,none⟩=some (.int .i64 bp):=fun W u=>(b2.upd u id).cell 1
 have y2:∀W,Upd No w2 W→W.cell? ⟨z+1,2,none⟩=some (.int .i64 bt):=fun W u=>(b2.upd u id).cell 2
 have y3:∀W,Upd No w2 W→W.cell? ⟨z+1,3,none⟩=some (.int .i64 bk):=fun W u=>(b2.upd u id).cell 3
 have y4:∀W,Upd No w2 W→W.cell? ⟨z+1,4,none⟩=some (.int .i64 bn):=fun W u=>(b2.upd u id).cell 4
 have hr:Upd No w2 w2:=Upd.refl _ _;have U0:=Qh (u1.trans u2);clear u1 u2 b1 b2;obtain⟨w3,hw3⟩:∃w3,w2.alloc (.cells #[.int .i64 ax,.int .i64 ap,.int .i64 at_,.int .i64 ak,.int .i64 an] 196)=w3:=⟨_,rfl⟩;have s3:w3.heap.size=z+1+1+1:=by rw[←hw3,←s2];simp
 obtain⟨w4,hw4⟩:∃w4,w3.alloc (.cells #[.int .i64 bx,.int .i64 bp,.int .i64 bt,.int .i64 bk,.int .i64 bn] 196)=w4:=⟨_,rfl⟩;have u3:Upd No w2 w3:=by rw[←hw3];exact(Upd.refl No w2).alloc _
 have u4:Upd No w3 w4:=by rw[←hw4];exact(Upd.refl No w3).alloc _
 have b3:Blk w4 (z+1+1) 196 [.int .i64 ax,.int .i64 ap,.int .i64 at_,.int .i64 ak,.int .i64 an]:=Blk.upd (S:=No) (by rw[←hw3,←s2];exact Blk.new w2 _ _) u4 id;have b4:Blk w4 (z+1+1+1) 196 [.int .i64 bx,.int .i64 bp,.int .i64 bt,.int .i64 bk,.int .i64 bn]:=by rw[←hw4,←s3];exact Blk.new w3 _ _
 obtain⟨C,hC⟩:∃C,Za0 [ax,ap,at_,ak,an] [bx,bp,bt,bk,bn]=C:=⟨_,rfl⟩;have HC:=Qh (fun W (u:Upd No w4 W)=>Zlz W _ _ (some ⟨z+1+1,0,none⟩) (some ⟨z+1+1+1,0,none⟩) 5 5 [ax,ap,at_,ak,an] [bx,bp,bt,bk,bn] (Ze3 (t:=196) (b3.upd u id)) (Ze3 (t:=196) (b4.upd u id)) rfl (by simp));have U4:=Qh (show Grw w w4 by rw[←hw4,←hw3,←hw2,←hw1];exact((((Grw.refl _).alloc _).alloc _).alloc _).alloc _);rw[hC]at HC ⊢;clear b3 b4 hC u4;have h4:Upd No w4 w4:=Upd.refl _ _
 go_enter Tryz.func184,Tryz.ntmps184
 go_wp2
 go_quiet ((go_at_call 257;exact Calls.quiet_of_same ((HC.out _ (h4.drewN _)).mono fun e w' h=>⟨h.1,h.2.symm⟩)))
 go_wp2
 go_ret
 exact⟨rfl,U4.out.drewN _⟩
end
/- Edges of a history:what the law on reasons asks,the plain part. -/
section
open Go.RowKit
section
variable {h:Hist}
theorem Zk1:(Zc h).Pairwise fun a b=>a.e≠b.e:=by
 have:=edgesR_strict (h:=h);rw[List.pairwise_map]at this;refine this.imp fun {a b} hab e=> ?_
 rw[e]at hab;unfold ltE at hab;simp at hab
theorem Zi6 (n2:∀t∈h.txs,t.ops.length≤24) (e:Edge):Zf h e≤24:=by
 unfold Zf
 cases ha:Zq h.txs e.f with
 |none=>simp
 |some a=>
  cases hb:Zq h.txs e.t with
  |none=>simp
  |some b=>
   simp only;have h1:=n2 a (ZaV (Zaq ha).1).1;have h2:=n2 b (ZaV (Zaq hb).1).1
   split
   ·omega
   ·split
    ·split<;>omega
    ·split
     ·exact Nat.le_trans List.countP_le_length h2
     ·split
      ·exact Nat.le_trans List.countP_le_length h1
      ·omega
end
end
/- Edges of a history:the law that the edges are those of all keys:the walk. -/
section
open Go.RowKit
theorem ZnI (w:World) (F:Nat→Prop) (A:Option Addr) (c:Nat) (l:List Int) (a:Int) (h:Ints F w A l) (hl:l.length≤4398046511103) {v:Bool} (hv:decide (a∈l)=v):
  Calls Tryz.prog 25 #[.slice A l.length c,.int .i64 a] w fun e w'=>e= .returned (.bool v)∧w=w':=by subst hv;exact Zos w F A c l a h hl
end
end Go.Proofs.YtblplapkdmhikaaGreat
