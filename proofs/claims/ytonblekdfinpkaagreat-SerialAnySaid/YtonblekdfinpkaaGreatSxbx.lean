/- Edges of a history: the law that the edges are those of all keys. -/
import Derived.Test.YtonblekdfinpkaaGreatSxbh
import Derived.Test.YtonblekdfinpkaaGreatSxbj
import Derived.Test.YtonblekdfinpkaaGreatSxbw
namespace Go.Proofs.YtonblekdfinpkaaGreat
set_option linter.unusedVariables false
set_option linter.unusedSimpArgs false
section
open Go.RowKit
theorem Zfl {h:Hist} {x:Hvy} (hx:x∈Zh h):Za h=true:=by
 cases hr:Za h with
 |true=>rfl
 |false=>unfold Zh at hx;rw[if_neg (by rw[hr];decide)]at hx;cases hx
end
/- Reads that may not be,plain:those whose key counts,as they are gathered. -/
section
open Go.RowKit
def Zed (p:Int) (td ud:Bool) (nth:Int) (W:Nat):Bool:=if p=2 then td&& !ud else if p=3 then td&&decide (nth<(W:Int)) else false
def Z4 (cnt:Int→Bool) (txs:List HTx) (p:Int) (t:HTx) (o:HOp):Bool:=
 o.read&& !(o.tx==0)&& !(o.tx==t.id)&&cnt o.key&&Zed p t.done (Zb0 txs o.tx) o.nth (Zg (Zae txs o.tx) o.key)
def ZR (P:HTx→HOp→Bool) (t:HTx) (i:Nat) (acc:List HBad):List HOp→List HBad
 |[]=>acc
 |o::l=>ZR P t (i+1) (if P t o then acc++[⟨t.id,i,Zo o⟩] else acc) l
def Zbl (P:HTx→HOp→Bool) (acc:List HBad):List HTx→List HBad
 |[]=>acc
 |t::l=>Zbl P (ZR P t 0 acc t.ops) l
theorem Ziz (txs:List HTx) (p:Int) (t:HTx):∀(l:List HOp) (i:Nat) (acc:List HBad),ZR (Zbu txs · p ·) t i acc l=ZdP txs p t i acc l
 |[],_,_=>rfl
 |o::l,i,acc=>Ziz txs p t l (i+1) _
theorem ZiA (txs:List HTx) (p:Int):∀(l:List HTx) (acc:List HBad),Zbl (Zbu txs · p ·) acc l=ZdQ txs p acc l
 |[],_=>rfl
 |t::l,acc=>by
  show Zbl _ (ZR _ t 0 acc t.ops) l=ZdQ txs p (ZdP txs p t 0 acc t.ops) l
  rw[Ziz,ZiA txs p l]
theorem Zhd {P Q:HTx→HOp→Bool} {t:HTx}:∀(l:List HOp) (i:Nat) (acc:List HBad),(∀o∈l,P t o=Q t o)→ZR P t i acc l=ZR Q t i acc l
 |[],_,_,_=>rfl
 |o::l,i,acc,h=>by
  show ZR P t (i+1) (if P t o then _ else acc) l=ZR Q t (i+1) (if Q t o then _ else acc) l
  rw[h o (List.mem_cons_self ..),Zhd l _ _ fun x hx=>h x (List.mem_cons_of_mem _ hx)]
theorem Zhe {P Q:HTx→HOp→Bool}:∀(l:List HTx) (acc:List HBad),(∀t∈l,∀o∈t.ops,P t o=Q t o)→Zbl P acc l=Zbl Q acc l
 |[],_,_=>rfl
 |t::l,acc,h=>by
  show Zbl P (ZR P t 0 acc t.ops) l=Zbl Q (ZR Q t 0 acc t.ops) l
  rw[Zhd _ _ _ (h t (List.mem_cons_self ..)),Zhe l _ fun x hx=>h x (List.mem_cons_of_mem _ hx)]
theorem Zf6 (cnt:Int→Bool) (P:HTx→HOp→Bool) (t:HTx) (hP:∀o,P t o=true→o.read=true):∀(l:List HOp) (i:Nat) (acc:List HBad),
  ZR (fun t o=>cnt o.key&&P t o) t i (acc.filter fun b=>cnt b.of.key) l=(ZR P t i acc l).filter fun b=>cnt b.of.key
 |[],_,_=>rfl
 |o::l,i,acc=>by
  show ZR _ t (i+1) (if (cnt o.key&&P t o)=true then _ else _) l=List.filter _ (ZR P t (i+1) (if P t o=true then acc++[⟨t.id,i,Zo o⟩] else acc) l)
  rw[←Zf6 cnt P t hP l]
  congr 1
  by_cases h:P t o=true
  ·have hr:=hP o h;have hk:(Zo o).key=o.key:=by unfold Zo;rw[if_pos hr]
   rw[h,Bool.and_true,if_pos rfl,List.filter_append]
   by_cases hc:cnt o.key=true
   ·rw[if_pos hc,List.filter_cons_of_pos (by simpa[hk]using hc)];rfl
   ·rw[if_neg hc,List.filter_cons_of_neg (by simpa[hk]using hc)];simp
  ·rw[if_neg h,if_neg (by simp[h])]
theorem Zf7 (cnt:Int→Bool) (P:HTx→HOp→Bool) (hP:∀t o,P t o=true→o.read=true):∀(l:List HTx) (acc:List HBad),
  Zbl (fun t o=>cnt o.key&&P t o) (acc.filter fun b=>cnt b.of.key) l=(Zbl P acc l).filter fun b=>cnt b.of.key
 |[],_=>rfl
 |t::l,acc=>by
  show Zbl _ (ZR _ t 0 (acc.filter fun b=>cnt b.of.key) t.ops) l=List.filter _ (Zbl P (ZR P t 0 acc t.ops) l)
  rw[Zf6 cnt P t (hP t),Zf7 cnt P hP l]
def ZeC (cnt:Int→Bool) (h:Hist) (p:Int):List HBad:=if Za h=true then Zbl (Z4 cnt h.txs p) [] h.txs else []
section
variable {h:Hist}
theorem Zqu (hr:Za h=true) (cnt:Int→Bool) (p:Int) {t:HTx} (ht:t∈h.txs) {o:HOp} (ho:o∈t.ops):Z4 cnt h.txs p t o=(cnt o.key&&Zbu h.txs t p o):=by
 unfold Z4 Zbu
 cases h1:o.read
 ·simp
 by_cases h3:o.tx=0
 ·simp[h3]
 by_cases h2:o.tx=t.id
 ·simp[h2]
 obtain⟨u,hu⟩:=Zf0 hr ht ho h1 h3 h2;unfold Zb0 Zae Zed;rw[hu];simp only;have e1:(o.tx==0)=false:=by simpa using h3
 have e2:(o.tx==t.id)=false:=by simpa using h2
 rw[e1,e2];have e3:(p==3)=decide (p=3):=by by_cases h:p=3<;>simp[h]
 rw[e3]
 cases t.done<;>cases cnt o.key<;>simp
theorem Zqt (cnt:Int→Bool) (p:Int):ZeC cnt h p=(Zct h p).filter fun b=>cnt b.of.key:=by
 unfold ZeC Zct
 split
 ·rename_i hr
  rw[Zhe (Q:=fun t o=>cnt o.key&&Zbu h.txs t p o) _ _ fun t ht o ho=>Zqu hr cnt p ht ho];rw[←ZiA];exact Zf7 cnt (Zbu h.txs · p ·) (fun t o hb=>by unfold Zbu at hb;simp only[Bool.and_eq_true]at hb;exact hb.1.1.1.2) h.txs []
 ·rfl
theorem ZoV (p:Int):ZeC (fun _=>true) h p=Zct h p:=by
 rw[Zqt];exact List.filter_eq_self.2 fun _ _=>rfl
end
/-! the transactions by their ids -/
def HTx.val (t:HTx):Value:= .agg #[.int .i64 t.id,.bool t.done,.slice t.A t.ops.length t.c]
def ByM (m:List (Int×Value)) (txs:List HTx):Prop:=∀i,Zr m i=(Zd txs i).map HTx.val
theorem ZjZ (a b:List HTx) (i:Int):Zd (a++b) i=(Zd a i).or (Zd b i):=by
 unfold Zd;rw[List.find?_append]
theorem ByM.put {m:List (Int×Value)} {txs:List HTx} (h:ByM m txs) (x:HTx) (hn:Zd txs x.id=none):ByM (Zk m x.id x.val) (txs++[x]):=fun i=>by
 rw[Zad,ZjZ]
 by_cases e:i=x.id
 ·subst e;rw[if_pos rfl,hn];unfold Zd;simp
 ·rw[if_neg e,h i]
  have:Zd [x] i=none:=by
   unfold Zd;rw[List.find?_cons_of_neg (by simpa using fun e2:x.id=i=>e e2.symm)];rfl
  rw[this,Option.or_none]
theorem ZlR {txs:List HTx} (hn:(txs.map (·.id)).Nodup) {k:Nat} (hk:k<txs.length):Zd (txs.take k) txs[k].id=none:=by
 unfold Zd;rw[List.find?_eq_none];intro x hx;obtain⟨j,hj,rfl⟩:=List.mem_iff_getElem.1 hx;rw[List.length_take]at hj;rw[List.getElem_take];rw[List.nodup_iff_pairwise_ne,List.pairwise_map]at hn;have:=List.pairwise_iff_getElem.1 hn j k (by omega) hk (by omega)
 simpa using this
theorem Znt (P:HTx→HOp→Bool) (t:HTx) (i:Nat) (acc:List HBad) (o:HOp) (l:List HOp):ZR P t i acc (o::l)=ZR P t (i+1) (if P t o then acc++[⟨t.id,i,Zo o⟩] else acc) l:=rfl
theorem Znu (P:HTx→HOp→Bool) (acc:List HBad) (t:HTx) (l:List HTx):Zbl P acc (t::l)=Zbl P (ZR P t 0 acc t.ops) l:=rfl
end
/- Reads that may not be:what one is,and the closures. -/
section
open Go.RowKit
set_option maxRecDepth 100000 in
theorem Zrf (F:Nat→Prop) (w:World) (ti:Int) (td:Bool) (tA:Option Addr) (tn tc:Nat) (ui:Int) (ud:Bool) (uA:Option Addr) (uc:Nat) (uo:List HOp) (yr:Bool) (yk yt yn p:Int) (h:HOps F w uA uo) (hl:Zp uo.length) {v:Bool} (hv:Zed p td ud yn (Zg uo yk)=v):
  Calls Tryz.prog 189 #[.agg #[.int .i64 ti,.bool td,.slice tA tn tc],.agg #[.int .i64 ui,.bool ud,.slice uA uo.length uc],.agg #[.bool yr,.int .i64 yk,.int .i64 yt,.int .i64 yn],.int .i64 p] w fun e w'=>e= .returned (.bool v)∧Upd No w w':=by
 obtain⟨z,hz⟩:∃z,w.heap.size=z:=⟨_,rfl⟩;obtain⟨w1,hw1⟩:∃w1,w.alloc (.cells #[.int .i64 ti,.bool td,.slice tA tn tc] 85)=w1:=⟨_,rfl⟩;have s1:w1.heap.size=z+1:=by rw[←hw1,←hz];simp
 obtain⟨w2,hw2⟩:∃w2,w1.alloc (.cells #[.int .i64 ui,.bool ud,.slice uA uo.length uc] 85)=w2:=⟨_,rfl⟩;have s2:w2.heap.size=z+1+1:=by rw[←hw2,←s1];simp
 obtain⟨wb,hwb⟩:∃wb,w2.alloc (.cells #[.bool yr,.int .i64 yk,.int .i64 yt,.int .i64 yn] 82)=wb:=⟨_,rfl⟩;have u1:Upd No w w1:=by rw[←hw1];exact(Upd.refl No w).alloc _
 have u2:Upd No w1 w2:=by rw[←hw2];exact(Upd.refl No w1).alloc _
 have u3:Upd No w2 wb:=by rw[←hwb];exact(Upd.refl No w2).alloc _
 have b1:Blk w1 z 85 [.int .i64 ti,.bool td,.slice tA tn tc]:=by rw[←hw1,←hz];exact Blk.new w _ _
 have b2:Blk w2 (z+1) 85 [.int .i64 ui,.bool ud,.slice uA uo.length uc]:=by rw[←hw2,←s1];exact Blk.new w1 _ _
 have b3:Blk wb (z+1+1) 82 [.bool yr,.int .i64 yk,.int .i64 yt,.int .i64 yn]:=by rw[←hwb,←s2];exact Blk.new w2 _ _
 have c1:∀W,Upd No wb W→W.cell? ⟨z,1,none⟩=some (.bool td):=fun W u=>(b1.upd ((u2.trans u3).trans u) id).cell 1
 have d0:∀W,Upd No wb W→W.cell? ⟨z+1,0,none⟩=some (.int .i64 ui):=fun W u=>(b2.upd (u3.trans u) id).cell 0
 have d1:∀W,Upd No wb W→W.cell? ⟨z+1,1,none⟩=some (.bool ud):=fun W u=>(b2.upd (u3.trans u) id).cell 1
 have d2:∀W,Upd No wb W→W.cell? ⟨z+1,2,none⟩=some (.slice uA uo.length uc):=fun W u=>(b2.upd (u3.trans u) id).cell 2
 have e1:∀W,Upd No wb W→W.cell? ⟨z+1+1,1,none⟩=some (.int .i64 yk):=fun W u=>(b3.upd u id).cell 1
 have e3:∀W,Upd No wb W→W.cell? ⟨z+1+1,3,none⟩=some (.int .i64 yn):=fun W u=>(b3.upd u id).cell 3
 have hr:Upd No wb wb:=Upd.refl _ _;have hu:=(u1.trans u2).trans u3;have U0:=Qh hu;have HW:=Qh (fun W (u:Upd No wb W)=>ZfG F W ui ud uA uc uo yk (h.upd (hu.trans u) (fun _ _=>id)) hl);have HV:=Qh hv;clear u1 u2 u3 b1 b2 b3 hu hv h
 by_cases p2:p=2
 ·subst p2;have HV:=Qh (show v=(td&& !ud) from HV.out.symm)
  go_enter Tryz.func189,Tryz.ntmps189
  cases td
  ·go_wp2
   go_ret
   exact⟨by have:=HV.out;subst this;rfl,U0.out⟩
  ·cases ud
   ·go_wp2
    go_ret
    exact⟨by have:=HV.out;subst this;rfl,U0.out⟩
   ·go_wp2
    go_ret
    exact⟨by have:=HV.out;subst this;rfl,U0.out⟩
 ·by_cases p3:p=3
  ·subst p3;have HV:=Qh (show v=(td&&decide (yn<(Zg uo yk:Int))) from HV.out.symm)
   go_enter Tryz.func189,Tryz.ntmps189
   cases td
   ·go_wp2;refine wp_region_noPanic ?_;refine wp_region_held_drew (S:=(fun W'=>Upd No wb W')) (by kernel_rfl) ?_ (fun hHeld=> ?_)
    ·(first|exact hr.drew|exact hHeld)
    refine wpK 0 rfl ?_;refine wpK 1 rfl ?_;refine wpK 2 rfl ?_;refine wpN 3 rfl ?_;refine wpN 4 rfl ?_;refine wpN 5 rfl ?_;refine wpN 6 rfl ?_;refine wpN 7 rfl ?_;refine wpR [8] ?_;refine wpC rfl (fun K hK=> ?_) AllReadyH.nil;go_simp;refine hK.out _ _ ?_ (fun hHeld=> ?_)
    ·exact hHeld
    clear hK K
    try simp only[Act.put,sT,sS,sZ]
    refine wpN 9 rfl ?_;refine wpK 10 rfl ?_;refine wpK 11 rfl ?_;refine wpD (NoPanic.normal ?_);have HH:=Qh hHeld;go_wp2
    go_ret
    exact⟨by have:=HV.out;subst this;rfl,U0.out.trans HH.out⟩
   ·obtain⟨n,hn⟩:∃n,Zg uo yk=n:=⟨_,rfl⟩;rw[hn]at HW HV;clear hn;go_wp2;refine wp_region_noPanic ?_;refine wp_region_held_drew (S:=(fun W'=>Upd No wb W')) (by kernel_rfl) ?_ (fun hHeld=> ?_)
    ·(first|exact hr.drew|exact hHeld.trans hu9|exact hHeld)
    refine wpK 0 rfl ?_;refine wpK 1 rfl ?_;refine wpK 2 rfl ?_;refine wpK 3 rfl ?_;refine wpK 4 rfl ?_;refine wpK 5 rfl ?_;refine wpK 6 rfl ?_;refine wpK 7 rfl ?_;refine wpR [8] ?_;refine wpC rfl (fun K hK=> ?_) AllReadyH.nil;go_simp
    (first
  |(go_at_call 135;refine Calls.mono (HW.out _ hHeld) ?_;rintro r w9 ⟨rfl,hu9⟩))
    try (go_wp2_with fail)
    refine hK.out _ _ ?_ (fun hHeld=> ?_)
    ·(first|exact hr.drew|exact hHeld.trans hu9|exact hHeld)
    clear hK K
    try simp only[Act.put,sT,sS,sZ]
    refine wpK 9 rfl ?_;refine wpK 10 rfl ?_;refine wpK 11 rfl ?_;refine wpD (NoPanic.normal ?_);have HH:=Qh hHeld;go_wp2
    go_ret
    exact⟨by have:=HV.out;subst this;rfl,U0.out.trans HH.out⟩
  ·have q2:(p==2)=false:=by simpa using p2
   have q3:(p==3)=false:=by simpa using p3
   have HV:=Qh (show v=false by rw[←HV.out];unfold Zed;rw[if_neg p2,if_neg p3]);clear p2 p3
   go_enter Tryz.func189,Tryz.ntmps189
   go_wp2
   go_ret
   exact⟨by have:=HV.out;subst this;rfl,U0.out⟩
theorem Ztc (w:World) (key:Int):Calls Tryz.prog 122 #[.int .i64 key] w fun e w'=>e= .returned (.bool true)∧Upd No w w':=by
 go_enter Tryz.func122,Tryz.ntmps122
 go_wp2
 go_ret
 exact⟨rfl,Upd.refl _ _⟩
theorem ZpF (w:World):(zeroValue 85).run Tryz.prog w= .ok (.agg #[.int .i64 0,.bool false,.slice none 0 0]) w:=by kernel_rfl
theorem ZrC {F:Nat→Prop} {w:World} {txs:List HTx} {m:List (Int×Value)} (h:ByM m txs) (ht:∀t∈txs,HOps F w t.A t.ops∧Zp t.ops.length) (i:Int):
  ∃ui uA uc,(Zr m i).getD (.agg #[.int .i64 0,.bool false,.slice none 0 0])= .agg #[.int .i64 ui,.bool (Zb0 txs i),.slice uA (Zae txs i).length uc]∧HOps F w uA (Zae txs i)∧Zp (Zae txs i).length:=by
 rw[h i];unfold Zb0 Zae
 cases hf:Zd txs i with
 |none=>exact⟨0,none,0,rfl,fun h=>absurd rfl h,by unfold Zp;simp⟩
 |some t=>
  have:=ht t (Zba hf);exact⟨t.id,t.A,t.c,rfl,this.1,this.2⟩
end
/- Reads that may not be:all of a history. -/
section
open Go.RowKit
set_option maxRecDepth 100000 in
set_option maxHeartbeats 8000000 in
theorem Zqs (F:Nat→Prop) (w:World) (txs:List HTx) (ords:List HOrd) (A:Option Addr) (c:Nat) (B:Option Addr) (d:Nat) (cnt:Int→Bool) (p:Int) (H:Hist.lies F w ⟨txs,ords,A,c,B,d⟩)
  (hc:Hid (∀W key,Upd No w W→Calls Tryz.prog 122 #[.int .i64 key] W fun e w'=>e= .returned (.bool (cnt key))∧Upd No W w')):
  Calls Tryz.prog 121 #[.agg #[.slice A txs.length c,.slice B ords.length d],.int .i64 p,.func (.func 122) #[] #[]] w (Zlh w (ZeC cnt ⟨txs,ords,A,c,B,d⟩ p)):=by
 have hmm:= @run_makeMap Tryz.prog;have u0:=(Upd.refl No w).alloc (.cells #[.slice A txs.length c,.slice B ords.length d] 50);have bH:=Qh (Blk.new w 50 [.slice A txs.length c,.slice B ords.length d]);obtain⟨b,hb⟩:∃b,Za ⟨txs,ords,A,c,B,d⟩=b:=⟨_,rfl⟩;have HR:=Qh (Zef (H.upd u0 (fun _ _=>id)) hb);have U0:=Qh u0;clear u0
 cases b
 ·have HV:=Qh (show([]:List HBad)=ZeC cnt ⟨txs,ords,A,c,B,d⟩ p by unfold ZeC;rw[if_neg (by rw[hb];decide)]);clear hb
  go_enter Tryz.func121,Tryz.ntmps121
  go_wp2_with fail
  refine(HR.out).mono ?_;rintro e w1 ⟨rfl,hu1⟩;have HU:=Qh (U0.out.trans hu1);go_wp2
  go_ret
  exact⟨none,0,by rw[←HV.out];rfl,by rw[←HV.out];exact World.ownsRow_nil _ _ _ _,HU.out⟩
 ·have HV:=Qh (show Zbl (Z4 cnt txs p) [] txs=ZeC cnt ⟨txs,ords,A,c,B,d⟩ p by unfold ZeC;rw[if_pos hb])
  have hmany:txs.length≤4096:=by
   unfold Za at hb;simp only[Bool.and_eq_true,decide_eq_true_eq]at hb;exact hb.1.1.1
  have hlen:=Qh (show∀t∈txs,t.ops.length≤4095 from fun t ht=>Zms (ZbX hb ht).1);have HND:=Qh (show(txs.map (·.id)).Nodup from ZcE hb);have HTX:=Qh (fun(W:World) (u:Upd No w W)=>(show∀t∈txs,HOps F W t.A t.ops∧Zp t.ops.length from fun t ht=>⟨HOps.upd (H.tx t ht).1 u (fun _ _=>id),(H.tx t ht).2.2.1⟩));clear hb
  go_enter Tryz.func121,Tryz.ntmps121
  go_wp2_with fail
  refine(HR.out).mono ?_;rintro e w1 ⟨rfl,hu1⟩;have HU1:=Qh (U0.out.trans hu1);have BH:=Qh (bH.out.upd hu1 id);obtain⟨wb,hwb⟩:∃wb,w1.alloc (.map #[] 0)=wb:=⟨_,rfl⟩;have ub:Upd No w1 wb:=by rw[←hwb];exact(Upd.refl No w1).alloc _
  have HM0:Hid (MapIs wb w1.heap.size (fun n:Int=>Value.int .i64 n) []):=Qh (by rw[←hwb];exact MapIs.new w1 _);have HU:=Qh (HU1.out.trans ub);have hbw:=BH.out.lt;have hww:=HU1.out.size;have BHb:=Qh (BH.out.upd ub id);obtain⟨bm,hbm⟩:∃bm,w1.heap.size=bm:=⟨_,rfl⟩;have g0:∀W,Upd (One bm) wb W→W.cell? ⟨w.heap.size,0,none⟩=some (.slice A txs.length c):=fun W u=>by have:=(BHb.out.upd u (by unfold One;omega)).cell 0;simpa using this
  have hbz:Upd (One bm) wb wb:=Upd.refl _ _;have hnb:∀i,One bm i→w.heap.size≤i:=fun i e=>by unfold One at e;omega
  rw[hbm]at HM0;have HNB:=Qh hnb;have HNE:=Qh (show¬One bm w.heap.size from fun e=>by unfold One at e;omega);clear hu1 ub hnb;go_wp2;clear hmm hwb hbm hww hbw
  go_loopg [23] txs.length (fun gk i wr=>∃(k:Nat) (m:List (Int×Value)),k+gk=txs.length∧i= .int .i64 k∧Hid (MapIs wr bm (fun n:Int=>Value.int .i64 n) m∧ByM m (txs.take k))∧Upd (One bm) wb wr)
  case atStart=>exact⟨0,[],by omega,rfl,Qh ⟨HM0.out,fun i=>rfl⟩,hbz⟩
  case round=>
   obtain⟨k,m,hgk,rfl,hm,hu1⟩:=hrel;have hu:=HU.out.then_ hu1 (fun i e=>Or.inr (HNB.out i e))
   by_cases hlt:k<txs.length
   ·obtain⟨ad,hAd,q0,q1,q2⟩:=(H.upd hu (fun _ _=>id)).tx_at hlt;simp only at hAd q0 q1 q2;have hfn:=ZlR HND.out hlt;obtain⟨x,hx⟩:∃x,txs[k]=x:=⟨_,rfl⟩;have htk:txs.take (k+1)=txs.take k++[x]:=by rw[List.take_succ_eq_append_getElem hlt,hx]
    rw[hx]at q0 q1 q2 hfn;obtain⟨xi,xd,xo,xA,xc⟩:=x;simp only at q0 q1 q2 hfn;subst hAd;have HPUT:=Qh (show ByM (Zk m xi (.agg #[.int .i64 xi,.bool xd,.slice xA xo.length xc])) (txs.take (k+1)) by rw[htk];exact hm.out.2.put ⟨xi,xd,xo,xA,xc⟩ hfn);have b1:(0:Int)≤(k:Int):=Qn _;have b2:(k:Int)<(txs.length:Int):=by omega
    obtain⟨wx,hwx⟩:∃wx,wr.alloc (.cells #[.int .i64 xi,.bool xd,.slice xA xo.length xc] 85)=wx:=⟨_,rfl⟩;have ux:Upd No wr wx:=by rw[←hwx];exact(Upd.refl No wr).alloc _
    have bo:Blk wx wr.heap.size 85 [.int .i64 xi,.bool xd,.slice xA xo.length xc]:=by rw[←hwx];exact Blk.new wr _ _
    have t0:=bo.cell 0;have t1:=bo.cell 1;have t2:=bo.cell 2;simp only[Qz,Qs]at t0 t1 t2;have hmx:=hm.out.1.upd ux id;have HUX:=Qh (hu1.trans (ux.mono (fun _ _ e=>e.elim)));clear hx htk hfn bo ux hu
    go_wp2_with (at_mapUpdate;refine ZjL rfl rfl Zz Tryz.underlying258 (a:=xi) (val:= .agg #[.int .i64 xi,.bool xd,.slice xA xo.length xc]) (by rfl) (by rfl) (by rfl) hmx ?_;intro w5 hm5 hu5)
    go_roundg (gk-1)
    case measure=>omega
    case rel=>exact⟨k+1,_,by omega,by go_num,Qh ⟨hm5,HPUT.out⟩,HUX.out.trans hu5⟩
   ·obtain rfl:k=txs.length:=by omega
    have HM:=Qh (show MapIs wr bm (fun n:Int=>Value.int .i64 n) m from hm.out.1);have HB:=Qh (show ByM m txs by have:=hm.out.2;rwa [List.take_length]at this);obtain⟨wm,hwm⟩:∃wm,wm=wr:=⟨_,rfl⟩;subst hwm;have HUM:=Qh hu;have hzw:=hu.size;have hbl:=HM.out.lt;have BM:=Qh (BHb.out.upd hu1 HNE.out);have g00:=g0 _ hu1;clear hm g0 hbz hu hu1 HM0 HU HU1
    generalize gk=GK at*
    go_wp2;clear g00
    go_loopg [7,35] txs.length (fun gk s i wr=>∃(k:Nat) (A3:Option Addr) (c3:Nat) (xs:List HBad),k+gk=txs.length∧i= .int .i64 k∧s= .slice A3 xs.length c3∧Hid (Zbl (Z4 cnt txs p) xs (txs.drop k)=Zbl (Z4 cnt txs p) [] txs)∧xs.length≤4095*k∧
     Hid (wr.ownsRow wm.heap.size 38 5 (.slice A3 xs.length c3) xs.length (xs.map HBad.cells).flatten)∧Upd No wm wr)
    case atStart=>exact⟨0,none,0,[],by omega,rfl,rfl,Qh rfl,by simp,Qh (World.ownsRow_nil _ _ _ _),Upd.refl _ _⟩
    case round=>
     obtain⟨k,A3,c3,xs,hgk,rfl,rfl,hs,hxl,hown,hu1⟩:=hrel
     by_cases hlt:k<txs.length
     ·have hu:=HUM.out.trans hu1;obtain⟨ad,hAd,q0,q1,q2⟩:=(H.upd hu (fun _ _=>id)).tx_at hlt;have hlo:=H.tx txs[k] (List.getElem_mem hlt);simp only at hAd q0 q1 q2;obtain⟨x,hx⟩:∃x,txs[k]=x:=⟨_,rfl⟩;rw[hx]at q0 q1 q2 hlo;obtain⟨xi,xd,xo,xA,xc⟩:=x;simp only at q0 q1 q2;subst hAd;have X:=Qh (show txs.drop k=⟨xi,xd,xo,xA,xc⟩::txs.drop (k+1) by rw[←hx];exact List.drop_eq_getElem_cons hlt);have HL:=Qh hlo;have hol:=hlen.out _ (show(⟨xi,xd,xo,xA,xc⟩:HTx)∈txs by rw[←hx];exact List.getElem_mem hlt);simp only at hol;have b1:(0:Int)≤(k:Int):=Qn _;have b2:(k:Int)<(txs.length:Int):=by omega
      have hst:=hs.out;rw[X.out,Znu]at hst;have HST:=Qh hst;obtain⟨wx,hwx⟩:∃wx,wr.alloc (.cells #[.int .i64 xi,.bool xd,.slice xA xo.length xc] 85)=wx:=⟨_,rfl⟩;have ux:Upd No wr wx:=by rw[←hwx];exact(Upd.refl No wr).alloc _
      have BT:Hid (Blk wx wr.heap.size 85 [.int .i64 xi,.bool xd,.slice xA xo.length xc]):=Qh (by rw[←hwx];exact Blk.new wr _ _);have UA:=Qh (hu1.trans ux);have HO:=Qh (Zb hown.out ux (fun _ _=>id));have hzr:=hu1.size;have HXS:=Qh (show wx.heap.size=wr.heap.size+1 by rw[←hwx];simp);have HOL:=Qh (fun i e=>hown.out.lt i e);obtain⟨S,hS⟩:∃S,S=Own (.slice A3 xs.length c3):=⟨_,rfl⟩;have HSO:=Qh (show∀i,Own (.slice A3 xs.length c3) i→S i by rw[hS];exact fun _=>id);have HSB:=Qh (show∀i,S i→wm.heap.size≤i∧i<wr.heap.size by rw[hS];exact fun i e=>HOL.out i e);clear hS hst hx hlo ux hu;have HW2:=Qh fun W (hW:Upd S wx W)=>(show Upd No wm W from UA.out.then_ hW fun i e=> .inr (HSB.out i e).1)
      have HW1:=Qh fun W (hW:Upd S wx W)=>HUM.out.trans (HW2.out W hW)
      have hnT:¬S wr.heap.size:=fun e=>by have:=(HSB.out _ e).2;omega
      have hnM:¬S bm:=fun e=>by have:=(HSB.out _ e).1;omega
      have HLK:=Qh fun W (hW:Upd S wx W) tx=>Zf Zz Tryz.underlying258 ZpF ((HM.out.upd UA.out id).upd hW hnM) tx
      have t0:∀W,Upd S wx W→W.cell? ⟨wr.heap.size,0,none⟩=some (.int .i64 xi):=fun W hW=>(BT.out.upd hW hnT).cell 0
      have t1:∀W,Upd S wx W→W.cell? ⟨wr.heap.size,1,none⟩=some (.bool xd):=fun W hW=>(BT.out.upd hW hnT).cell 1
      have t2:∀W,Upd S wx W→W.cell? ⟨wr.heap.size,2,none⟩=some (.slice xA xo.length xc):=fun W hW=>(BT.out.upd hW hnT).cell 2
      have hrefl:Upd S wx wx:=Upd.refl _ _;have hmul:4095*k≤4095*4096:=Nat.mul_le_mul_left _ (by omega);clear UA BT;obtain⟨wo,hwo⟩:∃wo,wo=wr:=⟨_,rfl⟩;subst hwo
      generalize gk=m0 at*
      go_wp2
      go_loopg [7,42] xo.length (fun gm s i wr=>∃(j:Nat) (A4:Option Addr) (c4:Nat) (ys:List HBad),j+gm=xo.length∧i= .int .i64 j∧s= .slice A4 ys.length c4∧Hid (ZR (Z4 cnt txs p) ⟨xi,xd,xo,xA,xc⟩ j ys (xo.drop j)=ZR (Z4 cnt txs p) ⟨xi,xd,xo,xA,xc⟩ 0 xs xo)∧ys.length≤xs.length+j∧
       Hid (wr.ownsRow wm.heap.size 38 5 (.slice A4 ys.length c4) ys.length (ys.map HBad.cells).flatten)∧Hid (∀i,Own (.slice A4 ys.length c4) i→S i∨wo.heap.size+1≤i)∧Upd S wx wr)
      case atStart=>exact⟨0,A3,c3,xs,by omega,rfl,rfl,Qh rfl,by omega,HO,Qh (fun i e=> .inl (HSO.out i e)),hrefl⟩
      case round=>
       obtain⟨j,A4,c4,ys,hgm,rfl,rfl,hs2,hyl,hown2,hgr2,hu2⟩:=hrel;clear hrefl
       by_cases hlt2:j<xo.length
       ·obtain⟨ad2,hAd2,q0,q1,q2,q3⟩:=(HOps.upd HL.out.1 (HW1.out _ hu2) (fun _ _=>id)).at_ hlt2;obtain⟨x,hx⟩:∃x,xo[j]=x:=⟨_,rfl⟩;rw[hx]at q0 q1 q2 q3;obtain⟨rd,ky,tx,nt⟩:=x;simp only at q0 q1 q2 q3;subst hAd2
        have hst:ZR (Z4 cnt txs p) ⟨xi,xd,xo,some ad2,xc⟩ (j+1) (if Z4 cnt txs p ⟨xi,xd,xo,some ad2,xc⟩ ⟨rd,ky,tx,nt⟩=true then ys++[⟨xi,(j:Int),Zo ⟨rd,ky,tx,nt⟩⟩] else ys) (xo.drop (j+1))=ZR (Z4 cnt txs p) ⟨xi,xd,xo,some ad2,xc⟩ 0 xs xo:=by
         have:=hs2.out;rw[show xo.drop j=⟨rd,ky,tx,nt⟩::xo.drop (j+1) by rw[←hx];exact List.drop_eq_getElem_cons hlt2,Znt]at this;exact this
        have HS2:=Qh hst;have c1:(0:Int)≤(j:Int):=Qn _;have c2:(j:Int)<(xo.length:Int):=by omega
        obtain⟨wy,hwy⟩:∃wy,wr.alloc (.cells #[.bool rd,.int .i64 ky,.int .i64 tx,.int .i64 nt] 82)=wy:=⟨_,rfl⟩;have uy:Upd No wr wy:=by rw[←hwy];exact(Upd.refl No wr).alloc _
        have hub:Upd S wx wy:=hu2.noR uy;have bo:Blk wy wr.heap.size 82 [.bool rd,.int .i64 ky,.int .i64 tx,.int .i64 nt]:=by rw[←hwy];exact Blk.new wr _ _
        have o0:∀W,Upd No wy W→W.cell? ⟨wr.heap.size,0,none⟩=some (.bool rd):=fun W u=>(bo.upd u id).cell 0
        have o1:∀W,Upd No wy W→W.cell? ⟨wr.heap.size,1,none⟩=some (.int .i64 ky):=fun W u=>(bo.upd u id).cell 1
        have o2:∀W,Upd No wy W→W.cell? ⟨wr.heap.size,2,none⟩=some (.int .i64 tx):=fun W u=>(bo.upd u id).cell 2
        have o3:∀W,Upd No wy W→W.cell? ⟨wr.heap.size,3,none⟩=some (.int .i64 nt):=fun W u=>(bo.upd u id).cell 3
        have hyz:Upd No wy wy:=Upd.refl _ _;have BO:=Qh bo;have HO2:=Qh (Zb hown2.out uy (fun _ _=>id));have HLT:=Qh (fun i e=>hown2.out.lt i e);have hz2:=hu2.size;have hzq:=(HW2.out _ hu2).size;have hxs:=HXS.out;have HUB:=Qh hub;clear hst hx bo uy hs2
        cases rd
        ·have HS:=Qh (show ZR (Z4 cnt txs p) ⟨xi,xd,xo,some ad2,xc⟩ (j+1) ys (xo.drop (j+1))=ZR (Z4 cnt txs p) ⟨xi,xd,xo,some ad2,xc⟩ 0 xs xo by have:=HS2.out;rwa [if_neg (by simp[Z4])]at this);go_wp2
         go_roundg (gk-1)
         case measure=>omega
         case rel=>exact⟨j+1,A4,c4,ys,by omega,by go_num,rfl,HS,by omega,HO2,hgr2,HUB.out⟩
        by_cases k0:tx=0
        ·subst k0;have HS:=Qh (show ZR (Z4 cnt txs p) ⟨xi,xd,xo,some ad2,xc⟩ (j+1) ys (xo.drop (j+1))=ZR (Z4 cnt txs p) ⟨xi,xd,xo,some ad2,xc⟩ 0 xs xo by have:=HS2.out;rwa [if_neg (by simp[Z4])]at this);go_wp2
         go_roundg (gk-1)
         case measure=>omega
         case rel=>exact⟨j+1,A4,c4,ys,by omega,by go_num,rfl,HS,by omega,HO2,hgr2,HUB.out⟩
        have f0:(tx==0)=false:=by simpa using k0
        by_cases ki:tx=xi
        ·subst ki;have HS:=Qh (show ZR (Z4 cnt txs p) ⟨tx,xd,xo,some ad2,xc⟩ (j+1) ys (xo.drop (j+1))=ZR (Z4 cnt txs p) ⟨tx,xd,xo,some ad2,xc⟩ 0 xs xo by have:=HS2.out;rwa [if_neg (by simp[Z4])]at this);go_wp2
         go_roundg (gk-1)
         case measure=>omega
         case rel=>exact⟨j+1,A4,c4,ys,by omega,by go_num,rfl,HS,by omega,HO2,hgr2,HUB.out⟩
        have f1:(tx==xi)=false:=by simpa using ki
        obtain⟨cv,hcv⟩:∃cv,cnt ky=cv:=⟨_,rfl⟩;have CC:=Qh (show Calls Tryz.prog 122 #[.int .i64 ky] wy fun e w'=>e= .returned (.bool cv)∧Upd No wy w' by rw[←hcv];exact hc.out wy ky (HW1.out _ hub));have HK:=Qh (show∀jb,Zed p xd (Zb0 txs tx) nt (Zg (Zae txs tx) ky)=jb→Z4 cnt txs p ⟨xi,xd,xo,some ad2,xc⟩ ⟨true,ky,tx,nt⟩=(cv&&jb) from fun jb hj=>by unfold Z4;simp only;rw[f0,f1,hcv,hj];rfl);clear hcv k0 ki
        cases cv
        ·have HG:=Qh (HK.out _ rfl);simp only[Bool.false_and]at HG;have HS:=Qh (show ZR (Z4 cnt txs p) ⟨xi,xd,xo,some ad2,xc⟩ (j+1) ys (xo.drop (j+1))=ZR (Z4 cnt txs p) ⟨xi,xd,xo,some ad2,xc⟩ 0 xs xo by have:=HS2.out;rwa [HG.out,if_neg (by decide)]at this)
         go_wp2_with fail
         refine(CC.out).mono ?_;rintro e w3 ⟨rfl,hu3⟩;have HO3:=Qh (Zb HO2.out hu3 (fun _ _=>id));have HU3:=Qh (hub.noR hu3);go_wp2
         go_roundg (gk-1)
         case measure=>omega
         case rel=>exact⟨j+1,A4,c4,ys,by omega,by go_num,rfl,HS,by omega,HO3,hgr2,HU3.out⟩
        ·go_wp2_with fail
         refine(CC.out).mono ?_;rintro e w3 ⟨rfl,hu3⟩;have h3:Upd S wx w3:=hub.noR hu3;have hw3:=HW1.out _ h3;obtain⟨ui,uA,uc,hval,hops,hfew⟩:=ZrC HB.out (HTX.out _ hw3) tx;have e1:=HLK.out w3 h3 tx;rw[hval]at e1;obtain⟨jb,hjb⟩:∃jb,Zed p xd (Zb0 txs tx) nt (Zg (Zae txs tx) ky)=jb:=⟨_,rfl⟩;have HG:=Qh (HK.out _ hjb);have CJ:=Qh (Zrf F w3 xi xd (some ad2) xo.length xc ui (Zb0 txs tx) uA uc (Zae txs tx) true ky tx nt p hops hfew hjb);obtain⟨ub,hub2⟩:∃ub,Zb0 txs tx=ub:=⟨_,rfl⟩;obtain⟨un,hun⟩:∃un,(Zae txs tx).length=un:=⟨_,rfl⟩;rw[hub2,hun]at e1 CJ;clear hval hops hfew hjb hub2 hun hw3;have HO3:=Qh (Zb HO2.out hu3 (fun _ _=>id));change (Instr.lookup 258 (.map (some bm)) (.int .i64 tx) false).run Tryz.prog w3= .ok (.agg #[.int .i64 ui,.bool ub,.slice uA un uc]) w3 at e1
         go_wp2_with fail
         refine(CJ.out).mono ?_;rintro e w4 ⟨rfl,hu4⟩;have h4:Upd S wx w4:=h3.noR hu4;have HO4:=Qh (Zb HO3.out hu4 (fun _ _=>id));have HU4:=Qh h4;have BO4:=Qh (BO.out.upd (hu3.trans hu4) id);have hz4:=(hu3.trans hu4).size;have hzy:wr.heap.size<wy.heap.size:=BO.out.lt
         cases jb
         ·have HS:=Qh (show ZR (Z4 cnt txs p) ⟨xi,xd,xo,some ad2,xc⟩ (j+1) ys (xo.drop (j+1))=ZR (Z4 cnt txs p) ⟨xi,xd,xo,some ad2,xc⟩ 0 xs xo by have:=HS2.out;rwa [HG.out,if_neg (by decide)]at this);go_wp2
          go_roundg (gk-1)
          case measure=>omega
          case rel=>exact⟨j+1,A4,c4,ys,by omega,by go_num,rfl,HS,by omega,HO4,hgr2,HU4.out⟩
         ·have HS:=Qh (show ZR (Z4 cnt txs p) ⟨xi,xd,xo,some ad2,xc⟩ (j+1) (ys++[⟨xi,(j:Int),⟨tx,ky,nt⟩⟩]) (xo.drop (j+1))=ZR (Z4 cnt txs p) ⟨xi,xd,xo,some ad2,xc⟩ 0 xs xo by have:=HS2.out;rwa [HG.out,if_pos (by decide)]at this);have hnO:¬Own (.slice A4 ys.length c4) wr.heap.size:=fun e=>by have:=(HLT.out _ e).2;omega
          have hnT4:¬Own (.slice A4 ys.length c4) wo.heap.size:=fun e=>by
           rcases hgr2.out _ e with e|e
           ·exact hnT e
           ·omega
          have p0:∀W,Upd (Own (.slice A4 ys.length c4)) w4 W→W.cell? ⟨wr.heap.size,0,none⟩=some (.bool true):=fun W hW=>(BO4.out.upd hW hnO).cell 0
          have p1:∀W,Upd (Own (.slice A4 ys.length c4)) w4 W→W.cell? ⟨wr.heap.size,1,none⟩=some (.int .i64 ky):=fun W hW=>(BO4.out.upd hW hnO).cell 1
          have p2:∀W,Upd (Own (.slice A4 ys.length c4)) w4 W→W.cell? ⟨wr.heap.size,2,none⟩=some (.int .i64 tx):=fun W hW=>(BO4.out.upd hW hnO).cell 2
          have p3:∀W,Upd (Own (.slice A4 ys.length c4)) w4 W→W.cell? ⟨wr.heap.size,3,none⟩=some (.int .i64 nt):=fun W hW=>(BO4.out.upd hW hnO).cell 3
          have s0:∀W,Upd (Own (.slice A4 ys.length c4)) w4 W→W.cell? ⟨wo.heap.size,0,none⟩=some (.int .i64 xi):=fun W hW=>hW.keep (t0 _ HU4.out) hnT4
          clear t0 t1 t2 o0 o1 o2 o3 hub hyz h3 h4 hu3 hu4 e1;go_wp2;refine wp_region_noPanic ?_;refine wp_region_held_drew (S:=(fun w'=>Upd (Own (.slice A4 ys.length c4)) w4 w')) (by kernel_rfl) ?_ (fun hHeld=> ?_)
          ·(first|exact(Upd.refl _ _).drew|exact hHeld.noR hu5|exact hHeld.alloc _|exact hU6)
          refine wpK 0 rfl ?_;refine wpK 1 rfl ?_;refine wpK 2 rfl ?_;refine wpK 3 rfl ?_;refine wpK 4 rfl ?_;refine wpR [5] ?_;refine wpC rfl (fun K hK=> ?_) AllReadyH.nil;go_simp
          (first
  |(go_at_call 134;refine(Zre _ ky tx nt).mono ?_;rintro e w5 ⟨rfl,hu5⟩;have ho5:=Zb HO4.out hu5.of_drew (fun _ _=>id);have hz5:=hu5.of_drew.size))
          try (go_wp2_with fail)
          refine hK.out _ _ ?_ (fun hHeld=> ?_)
          ·(first|exact(Upd.refl _ _).drew|exact hHeld.noR hu5|exact hHeld.alloc _|exact hU6)
          clear hK K
          try simp only[Act.put,sT,sS,sZ]
          refine wpK 6 rfl ?_;refine wpR [7] ?_;refine wpC rfl (fun K hK=> ?_) AllReadyH.nil;go_simp;refine hK.out _ _ ?_ (fun hHeld=> ?_)
          ·(first|exact(Upd.refl _ _).drew|exact hHeld.noR hu5|exact hHeld.alloc _|exact hU6)
          clear hK K
          try simp only[Act.put,sT,sS,sZ]
          refine wpR [8] ?_;refine wpC rfl (fun K hK=> ?_) AllReadyH.nil
          (first
  |(refine Za9 (by rfl) (by rfl) Zn4 (v:= .slice A4 ys.length c4) (cells:=[.int .i64 xi,.int .i64 (j:Int),.int .i64 tx,.int .i64 ky,.int .i64 nt]) (by rfl) (by rfl) (by exact ho5.alloc _) rfl (by exact ZaV) (by rfl) (by omega) (by omega) (by simp;omega) ?_;intro g6 c6 w6 hown6 hu6 hg6 hlt6;have hU6:Upd (Own (.slice A4 ys.length c4)) w4 w6:=hHeld.trans hu6))
          refine hK.out _ _ ?_ (fun hHeld=> ?_)
          ·(first|exact(Upd.refl _ _).drew|exact hHeld.noR hu5|exact hHeld.alloc _|exact hU6)
          clear hK K
          try simp only[Act.put,sT,sS,sZ]
          refine wpK 9 rfl ?_;refine wpD (NoPanic.normal ?_)
          have HU6:=Qh (HU4.out.then_ hHeld fun i e=>by
           rcases hgr2.out i e with e|e
           ·exact .inl e
           ·exact .inr (by omega))
          have HG6:=Qh (show∀i,Own (.slice (some ⟨g6,0,none⟩) (ys.length+1) c6) i→S i∨wo.heap.size+1≤i from fun i e=>by
           rcases hg6 with h|⟨k6,hk6,hlk⟩
           ·exact hgr2.out i (h.symm.trans e)
           ·have e2:(some k6:Option Nat)=some i:=hk6.symm.trans e
            cases e2
            simp only[World.size_alloc]at hlk;exact .inr (by omega))
          clear hHeld p0 p1 p2 p3 s0 hg6;go_wp2
          go_roundg (gk-1)
          case measure=>omega
          case rel=>exact⟨j+1,some ⟨g6,0,none⟩,c6,ys++[⟨xi,(j:Int),⟨tx,ky,nt⟩⟩],by omega,by go_num,by simp,HS,by simp;omega,Qh (by simpa[HBad.cells]using hown6),Qh (by simpa using HG6.out),HU6.out⟩
       ·obtain rfl:j=xo.length:=by omega
        have HS:=Qh (show Zbl (Z4 cnt txs p) ys (txs.drop (k+1))=Zbl (Z4 cnt txs p) [] txs by
         have:=hs2.out;rw[List.drop_length]at this;rw[←HST.out,←this];rfl)
        go_wp2
        go_roundg (m0-1)
        case measure=>omega
        case rel=>exact⟨k+1,A4,c4,ys,by omega,by go_num,rfl,HS,by omega,hown2,HW2.out _ hu2⟩
     ·obtain rfl:k=txs.length:=by omega
      have HS:=Qh (show xs=ZeC cnt ⟨txs,ords,A,c,B,d⟩ p by rw[←HV.out,←hs.out,List.drop_length];rfl);go_wp2
      go_ret
      exact⟨A3,c3,by rw[←HS.out];rfl,by rw[←HS.out];exact Z6 hown.out hzw,HUM.out.trans hu1⟩
end
/- Reads that may not be:all of a history,those of a key;which one is ahead. -/
section
open Go.RowKit
set_option maxRecDepth 100000 in
theorem oOf (F:Nat→Prop) (w:World) (txs:List HTx) (ords:List HOrd) (A:Option Addr) (c:Nat) (B:Option Addr) (d:Nat) (p:Int) (H:Hist.lies F w ⟨txs,ords,A,c,B,d⟩):
  Calls Tryz.prog 56 #[.agg #[.slice A txs.length c,.slice B ords.length d],.int .i64 p] w (Zlh w (Zct ⟨txs,ords,A,c,B,d⟩ p)):=by
 obtain⟨wb,hwb⟩:∃wb,w.alloc (.cells #[.slice A txs.length c,.slice B ords.length d] 50)=wb:=⟨_,rfl⟩;have u0:Upd No w wb:=by rw[←hwb];exact(Upd.refl No w).alloc _
 have bH:Blk wb w.heap.size 50 [.slice A txs.length c,.slice B ords.length d]:=by rw[←hwb];exact Blk.new w _ _
 have g0:=bH.cell 0;have g1:=bH.cell 1;simp only[Qz,Qs]at g0 g1;have HG:=Qh (Zqs F wb txs ords A c B d (fun _=>true) p (H.upd u0 (fun _ _=>id)) (Qh fun W key _=>Ztc W key));rw[ZoV]at HG;have U0:=Qh u0;clear bH u0
 go_enter Tryz.func56,Tryz.ntmps56
 go_wp2_with fail
 refine(HG.out).mono ?_;rintro e w1 ⟨A1,c1,rfl,ho,hu⟩;go_wp2
 go_ret
 exact⟨A1,c1,rfl,Z6 ho U0.out.size,U0.out.trans hu⟩
/-! which one is ahead -/
end
/- Edges of a history:what the law on reasons asks,the plain part. -/
section
open Go.RowKit
section
variable {h:Hist}
theorem Znz:(Zh h).Pairwise fun a b=>a.e≠b.e:=by
 have:=ZeQ (h:=h);rw[List.pairwise_map]at this;refine this.imp fun {a b} hab e=> ?_
 rw[e]at hab;unfold ltE at hab;simp at hab
theorem Zbn {t:HTx} (hr:Za h=true) (ht:t∈h.txs) (hd:t.done=true):Zi h.txs t.id=some t:=by
 obtain⟨u,hu⟩:=(ZaG hr t.id).1 (by
  unfold Zc;exact List.mem_map.2 ⟨t,List.mem_filter.2 ⟨ht,hd⟩,rfl⟩)
 have h1:=Zai (ZO hu).1
 have h2:u=t:=by
  have hn:=ZcE hr;rw[List.nodup_iff_pairwise_ne,List.pairwise_map]at hn;obtain⟨i,hi,rfl⟩:=List.mem_iff_getElem.1 h1.1;obtain⟨j,hj,rfl⟩:=List.mem_iff_getElem.1 ht;rcases Nat.lt_trichotomy i j with h3|h3|h3
  ·exact absurd h1.2 (List.pairwise_iff_getElem.1 hn i j hi hj h3)
  ·subst h3;rfl
  ·exact absurd h1.2.symm (List.pairwise_iff_getElem.1 hn j i hj hi h3)
 rw[hu,h2]
theorem Zjl (hr:Za h=true) {o:HOrd} (ho:o∈h.ords):o.txs≠[]:=by
 obtain⟨j,hj,rfl⟩:=List.mem_iff_getElem.1 ho;exact((Zgg hj).1 (ZdV hr hj)).2.1
theorem ZhM (hr:Za h=true) {x:Hvy} (hx:x∈Zh h):(∃a,Zd h.txs x.e.f=some a∧a.done=true)∧(∃b,Zd h.txs x.e.t=some b∧b.done=true)∧x.e.f≠x.e.t∧1≤x.n:=by
 obtain⟨h1,h2⟩:=(Zay hr).1 hx;have h3:1≤x.n:=by omega
 unfold Z0 at h1
 cases ha:Zi h.txs x.e.f with
 |none=>rw[ha]at h1;exact absurd rfl h1
 |some a=>
  cases hb:Zi h.txs x.e.t with
  |none=>rw[ha,hb]at h1;exact absurd rfl h1
  |some b=>
   rw[ha,hb]at h1;simp only at h1;refine⟨⟨a,ZO ha⟩,⟨b,ZO hb⟩,fun e=> ?_,h3⟩;rw[if_pos e]at h1;exact absurd rfl h1
end
end
end Go.Proofs.YtonblekdfinpkaaGreat
