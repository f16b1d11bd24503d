/- How bad reads change: derive.Bads. -/
import Derived.Test.YtblplapkdmhikaaGreatProg
import Derived.Deep.RegionHeld3
import Derived.Test.YtblplapkdmhikaaGreatDbat
import Derived.Test.YtblplapkdmhikaaGreatDbbh
import Derived.Test.YtblplapkdmhikaaGreatDbbp
import Derived.Test.YtblplapkdmhikaaGreatDbbu
import Derived.Test.YtblplapkdmhikaaGreatDbbv
import Derived.Test.YtblplapkdmhikaaGreatDbbw
import Derived.Test.YtblplapkdmhikaaGreatDbca
namespace Go.Proofs.YtblplapkdmhikaaGreat
set_option linter.unusedVariables false
set_option linter.unusedSimpArgs false
section
open Go.RowKit
def bdF (l:List HBad):List Value:=(l.map HBad.cells).flatten
theorem Zid (l:List HBad) (x:HBad):bdF (l++[x])=bdF l++x.cells:=by unfold bdF;simp
theorem Zhe (txs:List HTx) (p:Int) (t:HTx):∀(l:List HOp) (i:Nat) (acc:List HBad),(ZaK txs p t i acc l).length≤acc.length+l.length
 |[],i,acc=>by show acc.length≤_;simp
 |o::l,i,acc=>by
  rw[ZjX];refine Nat.le_trans (Zhe txs p t l (i+1) _) ?_
  split<;>simp<;>omega
theorem Zhf (txs:List HTx) (p:Int):∀(l:List HTx) (acc:List HBad),(∀t∈l,t.ops.length≤24)→(Zbn txs p acc l).length≤acc.length+24*l.length
 |[],acc,_=>by show acc.length≤_;simp
 |t::l,acc,h=>by
  rw[ZjY];have h1:=Zhf txs p l (ZaK txs p t 0 acc t.ops) fun u hu=>h u (List.mem_cons_of_mem _ hu)
  have h2:=Zhe txs p t t.ops 0 acc;have h3:=h t (List.mem_cons_self ..);rw[List.length_cons];omega
theorem Zb9 {h:Hist} (hl:Zk h=true) (p:Int):(Z3 h p).length≤288:=by
 obtain⟨a1,a2,_⟩:=Zal hl;unfold Z3
 split
 ·have:=Zhf h.txs p h.txs [] a2;simp only[List.length_nil]at this;omega
 ·simp
theorem Zg3 {a b:Hist} (hl:Zk a=true) {p:Int} {ks:List Int} (hn:ks.Nodup):(Zaa a b p ks).length≤288:=
 Nat.le_trans (ZaQ _ (Z3 a p) (ZcW hn) fun x hx=>(mem_goneK.1 hx).2.1) (Zb9 hl p)
theorem ZfV (a b:Hist) (p:Int) (q:List Int) (key:Int):Zaa a b p (q++[key])=Zaa a b p q++(ofK a p key).filter fun x=> !(ofK b p key).contains x:=by
 unfold Zaa;rw[List.flatMap_append];simp
structure BW (w:World) (zo z5:Nat) (A7:Option Addr) (La:List HBad) (A8:Option Addr) (Lb:List HBad) (v6 v7:Value):Prop where
 l:Bads (fun i=>zo≤i∧i<z5) w A7 La
 r:Bads (fun i=>zo≤i∧i<z5) w A8 Lb
 a:∀i,Own v6 i→i<zo∨z5≤i
 b:∀i,Own v7 i→i<zo∨z5≤i
 z:z5≤w.heap.size
section
variable {w w':World} {zo z5:Nat} {A7 A8:Option Addr} {La Lb:List HBad} {v6 v7:Value}
theorem BW.upd (h:BW w zo z5 A7 La A8 Lb v6 v7) (u:Upd No w w'):BW w' zo z5 A7 La A8 Lb v6 v7:=⟨Bads.upd h.l u (fun _ _=>id),Bads.upd h.r u (fun _ _=>id),h.a,h.b,Nat.le_trans h.z u.size⟩
theorem BW.left {g n c:Nat} (h:BW w zo z5 A7 La A8 Lb v6 v7) (u:Upd (Own v6) w w') (hg:v6.ownBlock=some g∨w.heap.size≤g):BW w' zo z5 A7 La A8 Lb (.slice (some ⟨g,0,none⟩) n c) v7:=
 ⟨Bads.upd h.l u (fun i hi e=>by have:=h.a i e;omega),Bads.upd h.r u (fun i hi e=>by have:=h.a i e;omega),fun i f=>by
  have hgi:g=i:=by simpa[Own,Value.ownBlock]using f
  subst hgi;rcases hg with hg|hg
  ·exact h.a _ hg
  ·exact .inr (Nat.le_trans h.z hg),h.b,Nat.le_trans h.z u.size⟩
theorem BW.right {g n c:Nat} (h:BW w zo z5 A7 La A8 Lb v6 v7) (u:Upd (Own v7) w w') (hg:v7.ownBlock=some g∨w.heap.size≤g):BW w' zo z5 A7 La A8 Lb v6 (.slice (some ⟨g,0,none⟩) n c):=
 ⟨Bads.upd h.l u (fun i hi e=>by have:=h.b i e;omega),Bads.upd h.r u (fun i hi e=>by have:=h.b i e;omega),h.a,fun i f=>by
  have hgi:g=i:=by simpa[Own,Value.ownBlock]using f
  subst hgi;rcases hg with hg|hg
  ·exact h.b _ hg
  ·exact .inr (Nat.le_trans h.z hg),Nat.le_trans h.z u.size⟩
end
section
variable {F G:Nat→Prop} {w:World} {ta tb:List HTx} {oa ob:List HOrd} {A A':Option Addr} {c c':Nat} {B B':Option Addr} {d d':Nat}
set_option maxRecDepth 100000 in
set_option maxHeartbeats 2000000 in
theorem Zk2 (p:Int) (HA:Hist.lies F w ⟨ta,oa,A,c,B,d⟩) (HB:Hist.lies G w ⟨tb,ob,A',c',B',d'⟩) (hr:(Za ⟨ta,oa,A,c,B,d⟩&&Za ⟨tb,ob,A',c',B',d'⟩)=false):
  Calls Tryz.prog 26 #[.agg #[.slice A ta.length c,.slice B oa.length d],.agg #[.slice A' tb.length c',.slice B' ob.length d'],.int .i64 p] w fun e w'=>e= .returned (.tuple #[.slice none 0 0,.slice none 0 0,.int .i64 5])∧Upd No w w':=by
 obtain⟨z,hz⟩:∃z,w.heap.size=z:=⟨_,rfl⟩;obtain⟨w1,hw1⟩:∃w1,w.alloc (.cells #[.slice A ta.length c,.slice B oa.length d] 29)=w1:=⟨_,rfl⟩;have s1:w1.heap.size=z+1:=by rw[←hw1,←hz];simp
 obtain⟨w2,hw2⟩:∃w2,w1.alloc (.cells #[.slice A' tb.length c',.slice B' ob.length d'] 29)=w2:=⟨_,rfl⟩;have s2:w2.heap.size=z+1+1:=by rw[←hw2,←s1];simp
 have u1:Upd No w w1:=by rw[←hw1];exact(Upd.refl No w).alloc _
 have u2:Upd No w1 w2:=by rw[←hw2];exact(Upd.refl No w1).alloc _
 have bA:Blk w2 z 29 [.slice A ta.length c,.slice B oa.length d]:=by
  have:Blk w1 z 29 [.slice A ta.length c,.slice B oa.length d]:=by rw[←hw1,←hz];exact Blk.new w _ _
  exact this.upd u2 id
 have bB:Blk w2 (z+1) 29 [.slice A' tb.length c',.slice B' ob.length d']:=by rw[←hw2,←s1];exact Blk.new w1 _ _
 have d0:∀W,Upd No w2 W→W.cell? ⟨z,0,none⟩=some (.slice A ta.length c):=fun W u=>(bA.upd u id).cell 0
 have d1:∀W,Upd No w2 W→W.cell? ⟨z,1,none⟩=some (.slice B oa.length d):=fun W u=>(bA.upd u id).cell 1
 have d2:∀W,Upd No w2 W→W.cell? ⟨z+1,0,none⟩=some (.slice A' tb.length c'):=fun W u=>(bB.upd u id).cell 0
 have d3:∀W,Upd No w2 W→W.cell? ⟨z+1,1,none⟩=some (.slice B' ob.length d'):=fun W u=>(bB.upd u id).cell 1
 have hxz:Upd No w2 w2:=Upd.refl _ _;have UB:=Qh (u1.trans u2);have CA:=Qh (Zec (HA.upd UB.out (fun _ _=>id)) (HB.upd UB.out (fun _ _=>id)) hr);clear HA HB bA bB u1 u2 hr
 go_enter Tryz.func26,Tryz.ntmps26
 go_wp2_with fail
 refine(CA.out).mono ?_;rintro e w3 ⟨rfl,hu3⟩;go_wp2;refine bodyPost_ret (v:= .tuple #[.slice none 0 0,.slice none 0 0,.int .i64 5]) (by simp[results,Tryz.results26,go_sem]) rfl ?_;exact⟨rfl,UB.out.trans hu3⟩
set_option maxRecDepth 100000 in
set_option maxHeartbeats 8000000 in
theorem Zk3 (p:Int) (HA:Hist.lies F w ⟨ta,oa,A,c,B,d⟩) (HB:Hist.lies G w ⟨tb,ob,A',c',B',d'⟩) (hra:Za ⟨ta,oa,A,c,B,d⟩=true) (hrb:Za ⟨tb,ob,A',c',B',d'⟩=true) (la:Zk ⟨ta,oa,A,c,B,d⟩=true) (lb:Zk ⟨tb,ob,A',c',B',d'⟩=true)
  {l m:List HBad} (hl:Zae ⟨ta,oa,A,c,B,d⟩ ⟨tb,ob,A',c',B',d'⟩ p=l) (hm:Zae ⟨tb,ob,A',c',B',d'⟩ ⟨ta,oa,A,c,B,d⟩ p=m):
  Calls Tryz.prog 26 #[.agg #[.slice A ta.length c,.slice B oa.length d],.agg #[.slice A' tb.length c',.slice B' ob.length d'],.int .i64 p] w fun e w'=>∃A1 c1 A2 c2,e= .returned (.tuple #[.slice A1 l.length c1,.slice A2 m.length c2,.int .i64 0])∧Bads (fun _=>True) w' A1 l∧Bads (fun _=>True) w' A2 m∧Upd No w w':=by
 obtain⟨ks,hks⟩:∃ks,ZL ⟨ta,oa,A,c,B,d⟩ ⟨tb,ob,A',c',B',d'⟩=ks:=⟨_,rfl⟩;have hksl:ks.length≤1000000:=hks▸Zd4 la lb;have HND:=Qh (show ks.Nodup from hks▸ZbV);have HWE:=Qh (show ZaZ (Zaa ⟨ta,oa,A,c,B,d⟩ ⟨tb,ob,A',c',B',d'⟩ p ks)=l by rw[←hks,←hl];exact ZiA hra hrb);have HCA:=Qh (show ZaZ (Zaa ⟨tb,ob,A',c',B',d'⟩ ⟨ta,oa,A,c,B,d⟩ p ks)=m by rw[←hks,←hm];exact Zi7 hra hrb);have FW:=Qh (fun(q:List Int) (hn:q.Nodup)=>Zg3 (a:=⟨ta,oa,A,c,B,d⟩) (b:=⟨tb,ob,A',c',B',d'⟩) la (p:=p) hn);have FC:=Qh (fun(q:List Int) (hn:q.Nodup)=>Zg3 (a:=⟨tb,ob,A',c',B',d'⟩) (b:=⟨ta,oa,A,c,B,d⟩) lb (p:=p) hn);have FA:=Qh (Zb9 la p);have FB:=Qh (Zb9 lb p);obtain⟨z,hz⟩:∃z,w.heap.size=z:=⟨_,rfl⟩;obtain⟨w1,hw1⟩:∃w1,w.alloc (.cells #[.slice A ta.length c,.slice B oa.length d] 29)=w1:=⟨_,rfl⟩;have s1:w1.heap.size=z+1:=by rw[←hw1,←hz];simp
 obtain⟨w2,hw2⟩:∃w2,w1.alloc (.cells #[.slice A' tb.length c',.slice B' ob.length d'] 29)=w2:=⟨_,rfl⟩;have s2:w2.heap.size=z+1+1:=by rw[←hw2,←s1];simp
 have u1:Upd No w w1:=by rw[←hw1];exact(Upd.refl No w).alloc _
 have u2:Upd No w1 w2:=by rw[←hw2];exact(Upd.refl No w1).alloc _
 have bA:Blk w2 z 29 [.slice A ta.length c,.slice B oa.length d]:=by
  have:Blk w1 z 29 [.slice A ta.length c,.slice B oa.length d]:=by rw[←hw1,←hz];exact Blk.new w _ _
  exact this.upd u2 id
 have bB:Blk w2 (z+1) 29 [.slice A' tb.length c',.slice B' ob.length d']:=by rw[←hw2,←s1];exact Blk.new w1 _ _
 have UB:=Qh (u1.trans u2);have CT:=Qh (Zha (HA.upd UB.out (fun _ _=>id)) (HB.upd UB.out (fun _ _=>id)) hra hrb la lb hks);have HAW:=Qh (fun W (u:Upd No w2 W)=>HA.upd (UB.out.trans u) (fun _ _=>id));have HBW:=Qh (fun W (u:Upd No w2 W)=>HB.upd (UB.out.trans u) (fun _ _=>id));have d0:∀W,Upd No w2 W→W.cell? ⟨z,0,none⟩=some (.slice A ta.length c):=fun W u=>(bA.upd u id).cell 0
 have d1:∀W,Upd No w2 W→W.cell? ⟨z,1,none⟩=some (.slice B oa.length d):=fun W u=>(bA.upd u id).cell 1
 have d2:∀W,Upd No w2 W→W.cell? ⟨z+1,0,none⟩=some (.slice A' tb.length c'):=fun W u=>(bB.upd u id).cell 0
 have d3:∀W,Upd No w2 W→W.cell? ⟨z+1,1,none⟩=some (.slice B' ob.length d'):=fun W u=>(bB.upd u id).cell 1
 have hxz:Upd No w2 w2:=Upd.refl _ _;clear HA HB bA bB u1 u2 hra hrb la lb hks hl hm
 go_enter Tryz.func26,Tryz.ntmps26
 go_wp2_with fail
 refine(CT.out).mono ?_;rintro e w3 ⟨A3,c3,rfl,ho3,hu3⟩;have HK:=Qh (Ints.weak (G:=fun i=>i<w3.heap.size) (Ints.of_owned ho3) (fun i h _=>h));have hz3:=hu3.size;clear ho3;go_wp2
 go_loopg [6,7,29] ks.length (fun gk s t i wr=>∃(j:Nat) (A5:Option Addr) (c5:Nat) (A6:Option Addr) (c6:Nat) (xs ys:List HBad),j+gk=ks.length∧i= .int .i64 (j:Int)∧s= .slice A5 xs.length c5∧t= .slice A6 ys.length c6∧
  Hid (xs=Zaa ⟨ta,oa,A,c,B,d⟩ ⟨tb,ob,A',c',B',d'⟩ p (ks.take j))∧Hid (ys=Zaa ⟨tb,ob,A',c',B',d'⟩ ⟨ta,oa,A,c,B,d⟩ p (ks.take j))∧Hid (TwoW wr w3.heap.size 38 5 (.slice A5 xs.length c5) xs.length (bdF xs) 38 5 (.slice A6 ys.length c6) ys.length (bdF ys))∧Upd No w3 wr)
 case atStart=>exact⟨0,none,0,none,0,[],[],by omega,rfl,rfl,rfl,Qh rfl,Qh rfl,Qh (TwoW.nil _ _ _ _ _ _),Upd.refl _ _⟩
 case round=>
  obtain⟨j,A5,c5,A6,c6,xs,ys,hgj,rfl,rfl,rfl,hxs,hys,hT,hu⟩:=hrel;have hnt:∀j,(ks.take j).Nodup:=fun j=>HND.out.sublist (List.take_sublist _ _)
  have hxl:xs.length≤288:=by rw[hxs.out];exact FW.out _ (hnt j)
  have hyl:ys.length≤288:=by rw[hys.out];exact FC.out _ (hnt j)
  clear hnt
  by_cases hltj:j<ks.length
  ·obtain⟨ad,hAd,_,_,hc⟩:=(HK.out.upd hu (fun _ _=>id)).at_ hltj;obtain⟨key,hkey⟩:∃key,ks[j]=key:=⟨_,rfl⟩;rw[hkey]at hc;have HKT:=Qh (show ks.take (j+1)=ks.take j++[key] by rw[List.take_succ_eq_append_getElem hltj,hkey]);have j1:(0:Int)≤(j:Int):=Qn _;have j2:(j:Int)<(ks.length:Int):=by omega
   have jw:IntKind.i64.wrap ((j:Int)+1)=(j:Int)+1:=IntWalk.i64_in _ (by omega);obtain⟨La,hLa⟩:∃La,ofK ⟨ta,oa,A,c,B,d⟩ p key=La:=⟨_,rfl⟩;obtain⟨Lb,hLb⟩:∃Lb,ofK ⟨tb,ob,A',c',B',d'⟩ p key=Lb:=⟨_,rfl⟩;have UW:=Qh (hu3.trans hu);have CA:=Qh (fun W (u:Upd No w2 W)=>(by have h:=Zkz _ W ta oa A c B d p key (HAW.out W u);rw[show(Z3 ⟨ta,oa,A,c,B,d⟩ p).filter (fun b=>b.of.key==key)=La from hLa]at h;exact h:Calls Tryz.prog 88 #[.agg #[.slice A ta.length c,.slice B oa.length d],.int .i64 p,.int .i64 key] W (ZeB W La)));have CB:=Qh (fun W (u:Upd No w2 W)=>(by have h:=Zkz _ W tb ob A' c' B' d' p key (HBW.out W u);rw[show(Z3 ⟨tb,ob,A',c',B',d'⟩ p).filter (fun b=>b.of.key==key)=Lb from hLb]at h;exact h:Calls Tryz.prog 88 #[.agg #[.slice A' tb.length c',.slice B' ob.length d'],.int .i64 p,.int .i64 key] W (ZeB W Lb)));have lla:La.length≤288:=by rw[←hLa];exact Nat.le_trans (List.length_filter_le _ _) FA.out
   have llb:Lb.length≤288:=by rw[←hLb];exact Nat.le_trans (List.length_filter_le _ _) FB.out
   have HGX:=Qh (show Zaa ⟨ta,oa,A,c,B,d⟩ ⟨tb,ob,A',c',B',d'⟩ p (ks.take (j+1))=xs++La.filter (fun x=> !Lb.contains x) by rw[HKT.out,ZfV,hLa,hLb,hxs.out]);have HGY:=Qh (show Zaa ⟨tb,ob,A',c',B',d'⟩ ⟨ta,oa,A,c,B,d⟩ p (ks.take (j+1))=ys++Lb.filter (fun x=> !La.contains x) by rw[HKT.out,ZfV,hLa,hLb,hys.out]);have e0:∀W,Upd No wr W→W.cell? ⟨z,0,none⟩=some (.slice A ta.length c):=fun W u=>d0 W (UW.out.trans u)
   have e1:∀W,Upd No wr W→W.cell? ⟨z,1,none⟩=some (.slice B oa.length d):=fun W u=>d1 W (UW.out.trans u)
   have e2:∀W,Upd No wr W→W.cell? ⟨z+1,0,none⟩=some (.slice A' tb.length c'):=fun W u=>d2 W (UW.out.trans u)
   have e3:∀W,Upd No wr W→W.cell? ⟨z+1,1,none⟩=some (.slice B' ob.length d'):=fun W u=>d3 W (UW.out.trans u)
   have hrz:Upd No wr wr:=Upd.refl _ _;have D0:=Qh (And.intro d0 (And.intro d1 (And.intro d2 d3)));obtain⟨wo,hwo⟩:∃wo,wo=wr:=⟨_,rfl⟩;subst hwo
   generalize gk=m0 at*
   subst hAd;clear hkey hLa hLb hxs hys d0 d1 d2 d3;go_wp2;refine wp_region_noPanic ?_;refine wp_region_held_drew (S:=(fun W'=>Upd No wo W')) (by kernel_rfl) ?_ (fun hHeld=> ?_)
   ·(first|with_reducible exact hrz.drew|with_reducible exact hHeld.trans hu7|with_reducible exact hHeld.trans hu8)
   refine wpK 0 rfl ?_;refine wpK 1 rfl ?_;refine wpK 2 rfl ?_;refine wpK 4 rfl ?_;refine wpK 5 rfl ?_;refine wpK 6 rfl ?_;refine wpR [3] ?_;refine wpC rfl (fun K hK=> ?_) AllReadyH.nil;go_simp
   (first
  |(go_at_call 88;refine(CA.out _ (UW.out.trans hHeld)).mono ?_;rintro e w7 ⟨A7,c7,rfl,ho7,hu7⟩))
   try (go_wp2_with fail)
   refine hK.out _ _ ?_ (fun hHeld=> ?_)
   ·(first|with_reducible exact hrz.drew|with_reducible exact hHeld.trans hu7|with_reducible exact hHeld.trans hu8)
   clear hK K
   try simp only[Act.put,sT,sS,sZ]
   refine wpR [7] ?_;refine wpC rfl (fun K hK=> ?_) AllReadyH.nil;go_simp
   (first
  |(go_at_call 88;refine(CB.out _ (UW.out.trans hHeld)).mono ?_;rintro e w8 ⟨A8,c8,rfl,ho8,hu8⟩))
   try (go_wp2_with fail)
   refine hK.out _ _ ?_ (fun hHeld=> ?_)
   ·(first|with_reducible exact hrz.drew|with_reducible exact hHeld.trans hu7|with_reducible exact hHeld.trans hu8)
   clear hK K
   try simp only[Act.put,sT,sS,sZ]
   refine wpK 8 rfl ?_;refine wpK 9 rfl ?_;refine wpD (NoPanic.normal ?_);have hz78:=hu8.size;have hzo7:wo.heap.size≤w7.heap.size:=hu7.of_drew.size;have HB8:Hid (BW w8 wo.heap.size w8.heap.size A7 La A8 Lb (.slice A5 xs.length c5) (.slice A6 ys.length c6)):=Qh ⟨Bads.upd (Recs.weak (G:=fun i=>wo.heap.size≤i∧i<w8.heap.size) (Recs.of_own ZaG (by omega) ho7) (fun i hi e=>⟨(ho7.lt i e).1,by omega⟩)) hu8 (fun _ _=>id),Recs.weak (G:=fun i=>wo.heap.size≤i∧i<w8.heap.size) (Recs.of_own ZaG (by omega) ho8) (fun i hi e=>⟨Nat.le_trans hzo7 (ho8.lt i e).1,hi⟩),fun i e=> .inl (hT.out.l.lt i e).2,fun i e=> .inl (hT.out.r.lt i e).2,Nat.le_refl _⟩;have HT8:=Qh (hT.out.upd (hu7.of_drew.trans hu8) (fun _ _=>id));have HU8:=Qh (hu.trans (hu7.of_drew.trans hu8));clear hHeld ho7 ho8 hu7 hu8 hT e0 e1 e2 e3 hrz hu;go_wp2
   go_loopg [6,43] La.length (fun gk s i wr=>∃(k:Nat) (A9:Option Addr) (c9:Nat) (rs:List HBad),k+gk=La.length∧i= .int .i64 (k:Int)∧s= .slice A9 rs.length c9∧Hid (rs=xs++(La.take k).filter fun x=> !Lb.contains x)∧Hid (TwoW wr w3.heap.size 38 5 (.slice A9 rs.length c9) rs.length (bdF rs) 38 5 (.slice A6 ys.length c6) ys.length (bdF ys))∧Hid (BW wr wo.heap.size w8.heap.size A7 La A8 Lb (.slice A9 rs.length c9) (.slice A6 ys.length c6))∧Upd No w3 wr)
   case atStart=>exact⟨0,A5,c5,xs,by omega,rfl,rfl,Qh (by simp),HT8,HB8,HU8.out⟩
   case round=>
    obtain⟨k,A9,c9,rs,hgk,rfl,rfl,hs,hT,hB,hu⟩:=hrel
    have hrl:rs.length≤600:=by
     rw[hs.out,List.length_append];have h1:((La.take k).filter fun x=> !Lb.contains x).length≤(La.take k).length:=List.length_filter_le _ _;have h2:=List.length_take_le k La;omega
    by_cases hlt:k<La.length
    ·obtain⟨ad,hAd,q0,q1,q2,q3,q4⟩:=Bads.at_ hB.out.l hlt;obtain⟨x,hx⟩:∃x,La[k]=x:=⟨_,rfl⟩;simp only[hx]at q0 q1 q2 q3 q4;have HS:=Qh (ZbY (fun x=> !Lb.contains x) hlt hx);obtain⟨xx,xp,⟨xt,xk,xn⟩⟩:=x;simp only at q0 q1 q2 q3 q4;have i1:(0:Int)≤(k:Int):=Qn _;have i2:(k:Int)<(La.length:Int):=by omega
     clear hx;obtain⟨wx,hwx⟩:∃wx,wr.alloc (.cells #[.int .i64 xx,.int .i64 xp,.int .i64 xt,.int .i64 xk,.int .i64 xn] 38)=wx:=⟨_,rfl⟩;have ux:Upd No wr wx:=by rw[←hwx];exact(Upd.refl No wr).alloc _
     have bX:Blk wx wr.heap.size 38 [.int .i64 xx,.int .i64 xp,.int .i64 xt,.int .i64 xk,.int .i64 xn]:=by rw[←hwx];exact Blk.new wr _ _
     have f0:∀W,Upd No wx W→W.cell? ⟨wr.heap.size,0,none⟩=some (.int .i64 xx):=fun W u=>(bX.upd u id).cell 0
     have f1:∀W,Upd No wx W→W.cell? ⟨wr.heap.size,1,none⟩=some (.int .i64 xp):=fun W u=>(bX.upd u id).cell 1
     have f2:∀W,Upd No wx W→W.cell? ⟨wr.heap.size,2,none⟩=some (.int .i64 xt):=fun W u=>(bX.upd u id).cell 2
     have f3:∀W,Upd No wx W→W.cell? ⟨wr.heap.size,3,none⟩=some (.int .i64 xk):=fun W u=>(bX.upd u id).cell 3
     have f4:∀W,Upd No wx W→W.cell? ⟨wr.heap.size,4,none⟩=some (.int .i64 xn):=fun W u=>(bX.upd u id).cell 4
     have hxz:Upd No wx wx:=Upd.refl _ _;obtain⟨v,hv⟩:∃v,Lb.contains (⟨xx,xp,⟨xt,xk,xn⟩⟩:HBad)=v:=⟨_,rfl⟩;have HV:=Qh hv;have CC:=Qh (ZmF (c:=c8) (Bads.upd hB.out.r ux (fun _ _=>id)) (by omega) hv);have HT:=Qh (hT.out.upd ux (fun _ _=>id));have HBX:=Qh (hB.out.upd ux);have HUX:=Qh (hu.trans ux);subst hAd;clear ux bX hT hB hv hu
     cases v with
     |false=>
      go_wp2_with fail
      refine(CC.out).mono ?_;rintro e w4 ⟨rfl,hu4⟩;have HT4:=Qh (HT.out.upd hu4 (fun _ _=>id));have HB4:=Qh (HBX.out.upd hu4);have HO4:=Qh (HT4.out.l);have hz4:=(HUX.out.trans hu4).size;have HU4:=Qh (HUX.out.trans hu4)
      go_wp2_with (at_builtin;refine Zag rfl rfl Zcs (v:= .slice A9 rs.length c9) (n:=rs.length) (xs:=bdF rs) (cells:=[.int .i64 xx,.int .i64 xp,.int .i64 xt,.int .i64 xk,.int .i64 xn]) (by rfl) rfl HO4.out rfl rfl (by omega) (by omega) (by omega) ?_;intro g6 c6 w6 hown6 hu6 hg6 hlt6)
      go_roundg (gk-1)
      case measure=>omega
      case rel=>
       have hl1:(rs++[(⟨xx,xp,⟨xt,xk,xn⟩⟩:HBad)]).length=rs.length+1:=by simp
       exact⟨k+1,some ⟨g6,0,none⟩,c6,rs++[⟨xx,xp,⟨xt,xk,xn⟩⟩],by omega,by go_num,by rw[hl1],Qh (by rw[HS.out,HV.out,hs.out,List.append_assoc];rfl),Qh (by rw[hl1,Zid];exact HT4.out.left hown6 hu6 hg6),Qh (by rw[hl1];exact HB4.out.left hu6 hg6),HU4.out.then_ hu6 (fun i e=>Or.inr (HO4.out.lt i e).1)⟩
     |true=>
      go_wp2_with fail
      refine(CC.out).mono ?_;rintro e w4 ⟨rfl,hu4⟩;go_wp2
      go_roundg (gk-1)
      case measure=>omega
      case rel=>exact⟨k+1,A9,c9,rs,by omega,by go_num,rfl,Qh (by rw[HS.out,HV.out,hs.out];simp),Qh (HT.out.upd hu4 (fun _ _=>id)),Qh (HBX.out.upd hu4),HUX.out.trans hu4⟩
    ·obtain rfl:k=La.length:=by omega
     have HX:=Qh (show rs=Zaa ⟨ta,oa,A,c,B,d⟩ ⟨tb,ob,A',c',B',d'⟩ p (ks.take (j+1)) by rw[HGX.out,hs.out,List.take_length]);clear hs;go_wp2
     go_loopg [7,58] Lb.length (fun gk s i wr=>∃(k:Nat) (A10:Option Addr) (c10:Nat) (rt:List HBad),k+gk=Lb.length∧i= .int .i64 (k:Int)∧s= .slice A10 rt.length c10∧Hid (rt=ys++(Lb.take k).filter fun x=> !La.contains x)∧Hid (TwoW wr w3.heap.size 38 5 (.slice A9 rs.length c9) rs.length (bdF rs) 38 5 (.slice A10 rt.length c10) rt.length (bdF rt))∧Hid (BW wr wo.heap.size w8.heap.size A7 La A8 Lb (.slice A9 rs.length c9) (.slice A10 rt.length c10))∧Upd No w3 wr)
     case atStart=>exact⟨0,A6,c6,ys,by omega,rfl,rfl,Qh (by simp),hT,hB,hu⟩
     case round=>
      obtain⟨k,A10,c10,rt,hgk,rfl,rfl,hs,hT,hB,hu⟩:=hrel
      have hrl:rt.length≤600:=by
       rw[hs.out,List.length_append];have h1:((Lb.take k).filter fun x=> !La.contains x).length≤(Lb.take k).length:=List.length_filter_le _ _;have h2:=List.length_take_le k Lb;omega
      by_cases hlt:k<Lb.length
      ·obtain⟨ad,hAd,q0,q1,q2,q3,q4⟩:=Bads.at_ hB.out.r hlt;obtain⟨x,hx⟩:∃x,Lb[k]=x:=⟨_,rfl⟩;simp only[hx]at q0 q1 q2 q3 q4;have HS:=Qh (ZbY (fun x=> !La.contains x) hlt hx);obtain⟨xx,xp,⟨xt,xk,xn⟩⟩:=x;simp only at q0 q1 q2 q3 q4;have i1:(0:Int)≤(k:Int):=Qn _;have i2:(k:Int)<(Lb.length:Int):=by omega
       clear hx;obtain⟨wx,hwx⟩:∃wx,wr.alloc (.cells #[.int .i64 xx,.int .i64 xp,.int .i64 xt,.int .i64 xk,.int .i64 xn] 38)=wx:=⟨_,rfl⟩;have ux:Upd No wr wx:=by rw[←hwx];exact(Upd.refl No wr).alloc _
       have bX:Blk wx wr.heap.size 38 [.int .i64 xx,.int .i64 xp,.int .i64 xt,.int .i64 xk,.int .i64 xn]:=by rw[←hwx];exact Blk.new wr _ _
       have f0:∀W,Upd No wx W→W.cell? ⟨wr.heap.size,0,none⟩=some (.int .i64 xx):=fun W u=>(bX.upd u id).cell 0
       have f1:∀W,Upd No wx W→W.cell? ⟨wr.heap.size,1,none⟩=some (.int .i64 xp):=fun W u=>(bX.upd u id).cell 1
       have f2:∀W,Upd No wx W→W.cell? ⟨wr.heap.size,2,none⟩=some (.int .i64 xt):=fun W u=>(bX.upd u id).cell 2
       have f3:∀W,Upd No wx W→W.cell? ⟨wr.heap.size,3,none⟩=some (.int .i64 xk):=fun W u=>(bX.upd u id).cell 3
       have f4:∀W,Upd No wx W→W.cell? ⟨wr.heap.size,4,none⟩=some (.int .i64 xn):=fun W u=>(bX.upd u id).cell 4
       have hxz:Upd No wx wx:=Upd.refl _ _;obtain⟨v,hv⟩:∃v,La.contains (⟨xx,xp,⟨xt,xk,xn⟩⟩:HBad)=v:=⟨_,rfl⟩;have HV:=Qh hv;have CC:=Qh (ZmF (c:=c7) (Bads.upd hB.out.l ux (fun _ _=>id)) (by omega) hv);have HT:=Qh (hT.out.upd ux (fun _ _=>id));have HBX:=Qh (hB.out.upd ux);have HUX:=Qh (hu.trans ux);subst hAd;clear ux bX hT hB hv hu
       cases v with
       |false=>
        go_wp2_with fail
        refine(CC.out).mono ?_;rintro e w4 ⟨rfl,hu4⟩;have HT4:=Qh (HT.out.upd hu4 (fun _ _=>id));have HB4:=Qh (HBX.out.upd hu4);have HO4:=Qh (HT4.out.r);have hz4:=(HUX.out.trans hu4).size;have HU4:=Qh (HUX.out.trans hu4)
        go_wp2_with (at_builtin;refine Zag rfl rfl Zcs (v:= .slice A10 rt.length c10) (n:=rt.length) (xs:=bdF rt) (cells:=[.int .i64 xx,.int .i64 xp,.int .i64 xt,.int .i64 xk,.int .i64 xn]) (by rfl) rfl HO4.out rfl rfl (by omega) (by omega) (by omega) ?_;intro g6 c6 w6 hown6 hu6 hg6 hlt6)
        go_roundg (gk-1)
        case measure=>omega
        case rel=>
         have hl1:(rt++[(⟨xx,xp,⟨xt,xk,xn⟩⟩:HBad)]).length=rt.length+1:=by simp
         exact⟨k+1,some ⟨g6,0,none⟩,c6,rt++[⟨xx,xp,⟨xt,xk,xn⟩⟩],by omega,by go_num,by rw[hl1],Qh (by rw[HS.out,HV.out,hs.out,List.append_assoc];rfl),Qh (by rw[hl1,Zid];exact HT4.out.right hown6 hu6 hg6),Qh (by rw[hl1];exact HB4.out.right hu6 hg6),HU4.out.then_ hu6 (fun i e=>Or.inr (HO4.out.lt i e).1)⟩
       |true=>
        go_wp2_with fail
        refine(CC.out).mono ?_;rintro e w4 ⟨rfl,hu4⟩;go_wp2
        go_roundg (gk-1)
        case measure=>omega
        case rel=>exact⟨k+1,A10,c10,rt,by omega,by go_num,rfl,Qh (by rw[HS.out,HV.out,hs.out];simp),Qh (HT.out.upd hu4 (fun _ _=>id)),Qh (HBX.out.upd hu4),HUX.out.trans hu4⟩
      ·obtain rfl:k=Lb.length:=by omega
       have HY:=Qh (show rt=Zaa ⟨tb,ob,A',c',B',d'⟩ ⟨ta,oa,A,c,B,d⟩ p (ks.take (j+1)) by rw[HGY.out,hs.out,List.take_length]);clear hs;go_wp2
       go_roundg (m0-1)
       case measure=>omega
       case rel=>exact⟨j+1,A9,c9,A10,c10,rs,rt,by omega,by go_num,rfl,rfl,HX,HY,hT,hu⟩
  ·obtain rfl:j=ks.length:=by omega
   have HX:=Qh (show ZaZ xs=l by rw[hxs.out,List.take_length];exact HWE.out);have HY:=Qh (show ZaZ ys=m by rw[hys.out,List.take_length];exact HCA.out);have HLX:=Qh (show xs.length=l.length by rw[←HX.out,ZdN]);have HLY:=Qh (show ys.length=m.length by rw[←HY.out,ZdN]);have CS:=Qh (ZmE wr w3.heap.size A5 c5 xs hT.out.l (by omega) rfl);have HU:=Qh (UB.out.trans (hu3.trans hu));have HTT:=Qh hT.out;have hzw:=UB.out.size;clear hT hu
   go_wp2_with fail
   refine(CS.out).mono ?_;rintro e w4 ⟨rfl,ho4,hu4⟩;have HR4:=Qh (Zb HTT.out.r hu4 (fun i f2 f1=>HTT.out.ap i f1 f2));have CS2:=Qh (ZmE w4 w3.heap.size A6 c6 ys HR4.out (by omega) rfl);have HO4:=Qh ho4;have HU4:=Qh (HU.out.then_ hu4 (fun i e=> .inr (by have:=(HTT.out.l.lt i e).1;omega)));clear ho4 hu4
   go_wp2_with fail
   refine(CS2.out).mono ?_;rintro e w5 ⟨rfl,ho5,hu5⟩;have HL5:=Qh (Zb HO4.out hu5 (fun i f1 f2=>HTT.out.ap i f1 f2));have HO5:=Qh ho5;have HU5:=Qh (HU4.out.then_ hu5 (fun i e=> .inr (by have:=(HTT.out.r.lt i e).1;omega)));clear ho5 hu5;go_wp2;refine bodyPost_ret (v:= .tuple #[.slice A5 xs.length c5,.slice A6 ys.length c6,.int .i64 0]) (by simp[results,Tryz.results26,go_sem]) rfl ?_;rw[HLX.out,HLY.out];have q1:=Recs.of_own ZaG (by omega) HL5.out;have q2:=Recs.of_own ZaG (by omega) HO5.out;rw[HX.out]at q1;rw[HY.out]at q2;exact⟨A5,c5,A6,c6,rfl,Recs.weak q1 (fun _ _ _=>trivial),Recs.weak q2 (fun _ _ _=>trivial),HU5.out⟩
end
end
/- How edges and bad reads change:the answers that the document gives (lives). -/
section
open Go.RowKit
def BdX (w:World) (A:Option Addr) (l:List HBad):Prop:=Bads (fun _=>True) w A l
section
variable {F G:Nat→Prop} {w:World} {ta tb:List HTx} {oa ob:List HOrd} {A A':Option Addr} {c c':Nat} {B B':Option Addr} {d d' a1 a2 b1 b2:Nat}
theorem vDE (HA:Hist.lies F w ⟨ta,oa,A,c,B,d⟩) (HB:Hist.lies G w ⟨tb,ob,A',c',B',d'⟩) (hra:Za ⟨ta,oa,A,c,B,d⟩=true) (hrb:Za ⟨tb,ob,A',c',B',d'⟩=true) (la:Zk ⟨ta,oa,A,c,B,d⟩=true) (lb:Zk ⟨tb,ob,A',c',B',d'⟩=true)
  (n1:ta.length=a1) (n2:oa.length=a2) (n3:tb.length=b1) (n4:ob.length=b2) {l:List Hvy} {k:Nat} (hl:Za7 ⟨ta,oa,A,c,B,d⟩ ⟨tb,ob,A',c',B',d'⟩=l) (hk:l.length=k):
  Calls Tryz.prog 16 #[.agg #[.slice A a1 c,.slice B a2 d],.agg #[.slice A' b1 c',.slice B' b2 d']] w fun e w'=>∃A1 c1,e= .returned (.tuple #[.slice A1 k c1,.int .i64 0])∧HvX w' A1 l∧Upd No w w':=by
 subst n1 n2 n3 n4 hk;refine(Zi1 HA HB hra hrb la lb hl).mono ?_;rintro e w' ⟨A1,c1,rfl,ho,hu⟩;exact⟨A1,c1,rfl,HvX.own ho,hu⟩
theorem Znv (HA:Hist.lies F w ⟨ta,oa,A,c,B,d⟩) (HB:Hist.lies G w ⟨tb,ob,A',c',B',d'⟩) (hr:(Za ⟨ta,oa,A,c,B,d⟩&&Za ⟨tb,ob,A',c',B',d'⟩)=false)
  (n1:ta.length=a1) (n2:oa.length=a2) (n3:tb.length=b1) (n4:ob.length=b2):
  Calls Tryz.prog 16 #[.agg #[.slice A a1 c,.slice B a2 d],.agg #[.slice A' b1 c',.slice B' b2 d']] w fun e w'=>e= .returned (.tuple #[.slice none 0 0,.int .i64 5])∧Upd No w w':=by
 subst n1 n2 n3 n4;exact ZjS HA HB hr
theorem vDB (p:Int) (HA:Hist.lies F w ⟨ta,oa,A,c,B,d⟩) (HB:Hist.lies G w ⟨tb,ob,A',c',B',d'⟩) (hra:Za ⟨ta,oa,A,c,B,d⟩=true) (hrb:Za ⟨tb,ob,A',c',B',d'⟩=true) (la:Zk ⟨ta,oa,A,c,B,d⟩=true) (lb:Zk ⟨tb,ob,A',c',B',d'⟩=true)
  (n1:ta.length=a1) (n2:oa.length=a2) (n3:tb.length=b1) (n4:ob.length=b2) {l m:List HBad} {k j:Nat} (hl:Zae ⟨ta,oa,A,c,B,d⟩ ⟨tb,ob,A',c',B',d'⟩ p=l) (hm:Zae ⟨tb,ob,A',c',B',d'⟩ ⟨ta,oa,A,c,B,d⟩ p=m) (hk:l.length=k) (hj:m.length=j):
  Calls Tryz.prog 26 #[.agg #[.slice A a1 c,.slice B a2 d],.agg #[.slice A' b1 c',.slice B' b2 d'],.int .i64 p] w fun e w'=>∃A1 c1 A2 c2,e= .returned (.tuple #[.slice A1 k c1,.slice A2 j c2,.int .i64 0])∧BdX w' A1 l∧BdX w' A2 m∧Upd No w w':=by
 subst n1 n2 n3 n4 hk hj;exact Zk3 p HA HB hra hrb la lb hl hm
theorem Znw (p:Int) (HA:Hist.lies F w ⟨ta,oa,A,c,B,d⟩) (HB:Hist.lies G w ⟨tb,ob,A',c',B',d'⟩) (hr:(Za ⟨ta,oa,A,c,B,d⟩&&Za ⟨tb,ob,A',c',B',d'⟩)=false)
  (n1:ta.length=a1) (n2:oa.length=a2) (n3:tb.length=b1) (n4:ob.length=b2):
  Calls Tryz.prog 26 #[.agg #[.slice A a1 c,.slice B a2 d],.agg #[.slice A' b1 c',.slice B' b2 d'],.int .i64 p] w fun e w'=>e= .returned (.tuple #[.slice none 0 0,.slice none 0 0,.int .i64 5])∧Upd No w w':=by
 subst n1 n2 n3 n4;exact Zk2 p HA HB hr
end
def eH:Hist:=⟨[],[],none,0,none,0⟩
theorem Zgo (w:World):Hist.lies (fun _=>True) w eH:=⟨fun h=>absurd rfl h,fun h=>absurd rfl h,fun t ht=>(by cases ht),fun t ht=>(by cases ht),Nat.le_refl _,Nat.le_refl _,Nat.zero_le _,Nat.zero_le _⟩
theorem sd1:Za eH=true:=by kernel_rfl
theorem sd2:Zk eH=true:=by kernel_rfl
theorem sd3 (n:Nat):Za (ZF n)=true:=by kernel_rfl
theorem sd4 (n:Nat):Zk (ZF n)=true:=by kernel_rfl
theorem sd5 (n:Nat):Za ⟨(ZF n).txs,[],(ZF n).A,3,none,0⟩=false:=by kernel_rfl
theorem Zo0 (n:Nat):(Za (ZF n)&&Za ⟨(ZF n).txs,[],(ZF n).A,3,none,0⟩)=false:=by rw[sd5,Bool.and_false]
theorem ZoZ (n:Nat):(Za ⟨(ZF n).txs,[],(ZF n).A,3,none,0⟩&&Za (ZF n))=false:=by rw[sd5,Bool.false_and]
theorem sd6 (n:Nat):Za7 eH (ZF n)=[s1,s2,s3]:=by
 unfold Za7;rw[sa1,show Zc eH=[] by kernel_rfl,Zci]
theorem sd7 (n:Nat):Za7 (ZF n) eH=[⟨s1.e,-1⟩,⟨s2.e,-1⟩,⟨s3.e,-2⟩]:=by
 unfold Za7;rw[sa1,show Zc eH=[] by kernel_rfl,ZbK,ZbK,ZbK,Zci];rfl
theorem sd8 (n:Nat):Zae eH (ZF n) 2=[]:=by kernel_rfl
theorem sd9 (n:Nat):Zae (ZF n) eH 2=[]:=by kernel_rfl
set_option maxRecDepth 100000 in
set_option maxHeartbeats 8000000 in
theorem Zm4 (w:World):Calls Tryz.prog 15 #[] w fun e w'=>e= .returned (.bool true)∧Upd No w w':=by
 go_enter Tryz.func15,Tryz.ntmps15
 go_wp2_with fail
 refine(ZnA _).mono ?_;rintro e w1 ⟨rfl,hs,hu1⟩;obtain⟨z,hz⟩:∃z,w.heap.size=z:=⟨_,rfl⟩;rw[hz]at hs;simp only[hz];obtain⟨y,hy⟩:∃y,w1.heap.size=y:=⟨_,rfl⟩;obtain⟨wb,hwb⟩:∃wb,w1.alloc (.cells #[.slice (some ⟨z+1+1+1+1+1,0,none⟩) 3 3,.slice (some ⟨z+1+1+1+1+1+1+1,0,none⟩) 1 1] 29)=wb:=⟨_,rfl⟩;have u0:Upd No w1 wb:=by rw[←hwb];exact(Upd.refl No w1).alloc _
 have bH:Blk wb y 29 [.slice (some ⟨z+1+1+1+1+1,0,none⟩) 3 3,.slice (some ⟨z+1+1+1+1+1+1+1,0,none⟩) 1 1]:=by rw[←hwb,←hy];exact Blk.new w1 _ _
 have HS:=Qh (fun W (u:Upd No wb W)=>(hs.upd u0 (fun _ _=>id)).upd u (fun _ _=>id));have h0:∀W,Upd No wb W→W.cell? ⟨y,0,none⟩=some (.slice (some ⟨z+1+1+1+1+1,0,none⟩) 3 3):=fun W u=>(bH.upd u id).cell 0
 have h1:∀W,Upd No wb W→W.cell? ⟨y,1,none⟩=some (.slice (some ⟨z+1+1+1+1+1+1+1,0,none⟩) 1 1):=fun W u=>(bH.upd u id).cell 1
 have hxz:Upd No wb wb:=Upd.refl _ _;have HU0:=Qh (hu1.trans u0);clear hs hu1 u0 bH
 go_wp2_with fail
 refine(vDE (Zgo _) (HS.out _ hxz) sd1 (sd3 z) sd2 (sd4 z) rfl rfl rfl rfl (sd6 z) (k:=3) rfl).mono ?_;rintro e w2 ⟨A2,c2,rfl,hx2,hu2⟩;have HX2:=Qh hx2;clear hx2
 go_wp2_with fail
 refine(vDE (HS.out _ hu2) (Zgo _) (sd3 z) sd1 (sd4 z) sd2 rfl rfl rfl rfl (sd7 z) (k:=3) rfl).mono ?_;rintro e w3 ⟨A3,c3,rfl,hx3,hu3⟩;have HX3:=Qh hx3;have hv3:=hu2.trans hu3;clear hx3
 go_wp2_with fail
 refine(Znv (HS.out _ hv3) (ZhU (HS.out _ hv3)) (Zo0 z) rfl rfl rfl rfl).mono ?_;rintro e w4 ⟨rfl,hu4⟩;have hv4:=hv3.trans hu4
 go_wp2_with fail
 refine(vDB 2 (Zgo _) (HS.out _ hv4) sd1 (sd3 z) sd2 (sd4 z) rfl rfl rfl rfl (sd8 z) (sd9 z) (k:=0) (j:=0) rfl rfl).mono ?_;rintro e w5 ⟨A5,c5,A6,c6,rfl,hx5,hx6,hu5⟩;have hv5:=hv4.trans hu5
 go_wp2_with fail
 refine(Znw 2 (ZhU (HS.out _ hv5)) (HS.out _ hv5) (ZoZ z) rfl rfl rfl rfl).mono ?_;rintro e w6 ⟨rfl,hu6⟩;have hv6:=hv5.trans hu6;clear hx5 hx6;have CE:=Qh (ZmO (HS.out _ hv6) (Zlx z) (Zlw z) (sa1 z))
 go_wp2_with fail
 refine(CE.out).mono ?_;rintro e w7 ⟨A7,c7,rfl,hx7,hu7⟩;have hv7:=hv6.trans hu7;have CS:=Qh (Zom (c:=c2) (d:=c7) (HX2.out.upd ((hu3.trans hu4).trans ((hu5.trans hu6).trans hu7))) hx7 (by decide) (by decide) (n:=3) (m:=3) rfl rfl (v:=true) (by decide))
 go_wp2_with fail
 refine(CS.out).mono ?_;rintro e w8 ⟨rfl,hu8⟩;have hv8:=hv7.trans hu8;obtain⟨G3,hx3⟩:=HX3.out;obtain⟨ad,hAd,q0,q1,q2,q3,q4⟩:=Hvys.at_ (k:=2) (Hvys.upd hx3 (((hu4.trans hu5).trans (hu6.trans hu7)).trans hu8) (fun _ _=>id)) (by decide);subst hAd;simp only[List.getElem_cons_succ,List.getElem_cons_zero,Nat.reduceMul]at q4;rw[show(ad.add 10).block=ad.block by simp[Addr.add],show(ad.add 10).off=ad.off+10 by simp[Addr.add]]at q4;clear q0 q1 q2 q3 hx3;go_wp2
 go_ret
 exact⟨rfl,HU0.out.trans hv8⟩
end
/- How edges and bad reads change:the law DeriveTells. -/
section
open Go.RowKit
theorem Zk8 {a b:Hist} (ha:Za a=true) (hb:Za b=true) (la:Zk a=true) (lb:Zk b=true):(Za7 a b).length≤1048576:=by
 have hm:∀x∈(Za7 a b).map (·.e),x∈Zc2 (Zc a)++Zc2 (Zc b):=fun e he=>by
  obtain⟨x,hx,rfl⟩:=List.mem_map.1 he;have h:=((ZdB ha hb).m x).1 hx;rw[List.mem_append]
  by_cases h1:Zf a x.e=0
  ·refine .inr (List.mem_map.2 ⟨⟨x.e,(Zf b x.e:Int)⟩,(ZN hb).2 ⟨?_,rfl⟩,rfl⟩);simp only;omega
  ·exact .inl (List.mem_map.2 ⟨⟨x.e,(Zf a x.e:Int)⟩,(ZN ha).2 ⟨h1,rfl⟩,rfl⟩)
 have hn:((Za7 a b).map (·.e)).Nodup:=(sortH_map.1 (ZdB ha hb).s).imp fun {x y} h e=>by rw[e,Zas]at h;cases h
 have h1:=ZaQ _ _ hn hm;have h2:=Zfx la;have h3:=Zfx lb;rw[List.length_map,List.length_append]at h1;omega
section
variable {F G:Nat→Prop} {w:World} {ta tb:List HTx} {oa ob:List HOrd} {A A':Option Addr} {c c':Nat} {B B':Option Addr} {d d':Nat}
end
end
/- How edges and bad reads change:the law DeriveTouched. -/
section
open Go.RowKit
section
variable {F G:Nat→Prop} {w:World} {ta tb:List HTx} {oa ob:List HOrd} {A A':Option Addr} {c c':Nat} {B B':Option Addr} {d d':Nat}
set_option maxRecDepth 100000 in
set_option maxHeartbeats 8000000 in
theorem Zkd (HA:Hist.lies F w ⟨ta,oa,A,c,B,d⟩) (HB:Hist.lies G w ⟨tb,ob,A',c',B',d'⟩) (L:Hid (∀w,Calls Tryz.prog 15 #[] w fun e w'=>e= .returned (.bool true)∧Upd No w w')):
  Calls Tryz.prog 5 #[.agg #[.slice A ta.length c,.slice B oa.length d],.agg #[.slice A' tb.length c',.slice B' ob.length d']] w fun e w'=>e= .returned (.bool true)∧Upd No w w':=by
 obtain⟨la,hla⟩:∃v,Zk ⟨ta,oa,A,c,B,d⟩=v:=⟨_,rfl⟩;obtain⟨lb,hlb⟩:∃v,Zk ⟨tb,ob,A',c',B',d'⟩=v:=⟨_,rfl⟩;obtain⟨ra,hra⟩:∃v,Za ⟨ta,oa,A,c,B,d⟩=v:=⟨_,rfl⟩;obtain⟨rb,hrb⟩:∃v,Za ⟨tb,ob,A',c',B',d'⟩=v:=⟨_,rfl⟩;have HLA:=Qh hla;have HLB:=Qh hlb;have HRA:=Qh hra;have HRB:=Qh hrb;obtain⟨z,hz⟩:∃z,w.heap.size=z:=⟨_,rfl⟩;obtain⟨w1,hw1⟩:∃w1,w.alloc (.cells #[.slice A ta.length c,.slice B oa.length d] 29)=w1:=⟨_,rfl⟩;have s1:w1.heap.size=z+1:=by rw[←hw1,←hz];simp
 obtain⟨w2,hw2⟩:∃w2,w1.alloc (.cells #[.slice A' tb.length c',.slice B' ob.length d'] 29)=w2:=⟨_,rfl⟩;have s2:w2.heap.size=z+1+1:=by rw[←hw2,←s1];simp
 have u1:Upd No w w1:=by rw[←hw1];exact(Upd.refl No w).alloc _
 have u2:Upd No w1 w2:=by rw[←hw2];exact(Upd.refl No w1).alloc _
 have bA:Blk w2 z 29 [.slice A ta.length c,.slice B oa.length d]:=by
  have:Blk w1 z 29 [.slice A ta.length c,.slice B oa.length d]:=by rw[←hw1,←hz];exact Blk.new w _ _
  exact this.upd u2 id
 have bB:Blk w2 (z+1) 29 [.slice A' tb.length c',.slice B' ob.length d']:=by rw[←hw2,←s1];exact Blk.new w1 _ _
 have UB:=Qh (u1.trans u2);have HAW:=Qh (fun W (u:Upd No w2 W)=>HA.upd (UB.out.trans u) (fun _ _=>id));have HBW:=Qh (fun W (u:Upd No w2 W)=>HB.upd (UB.out.trans u) (fun _ _=>id));have d0:∀W,Upd No w2 W→W.cell? ⟨z,0,none⟩=some (.slice A ta.length c):=fun W u=>(bA.upd u id).cell 0
 have d1:∀W,Upd No w2 W→W.cell? ⟨z,1,none⟩=some (.slice B oa.length d):=fun W u=>(bA.upd u id).cell 1
 have d2:∀W,Upd No w2 W→W.cell? ⟨z+1,0,none⟩=some (.slice A' tb.length c'):=fun W u=>(bB.upd u id).cell 0
 have d3:∀W,Upd No w2 W→W.cell? ⟨z+1,1,none⟩=some (.slice B' ob.length d'):=fun W u=>(bB.upd u id).cell 1
 have hxz:Upd No w2 w2:=Upd.refl _ _;have CL1:=Qh (fun W (u:Upd No w2 W)=>ZiP (HAW.out _ u) hla);have CL2:=Qh (fun W (u:Upd No w2 W)=>ZiP (HBW.out _ u) hlb);clear HA HB bA bB u1 u2 hla hlb hra hrb
 go_enter Tryz.func5,Tryz.ntmps5
 go_wp2_with fail
 refine(L.out _).mono ?_;rintro e w3 ⟨rfl,hu3⟩
 go_wp2_with fail
 refine(CL1.out _ hu3).mono ?_;rintro e w4 ⟨rfl,hu4⟩;have hv4:=hu3.trans hu4
 cases la with
 |false=>
  go_wp2
  go_ret
  exact⟨rfl,UB.out.trans hv4⟩
 |true=>
  go_wp2_with fail
  refine(CL2.out _ hv4).mono ?_;rintro e w5 ⟨rfl,hu5⟩;have hv5:=hv4.trans hu5
  cases lb with
  |false=>
   go_wp2
   go_ret
   exact⟨rfl,UB.out.trans hv5⟩
  |true=>
   by_cases hrr:(ra&&rb)=true
   ·rw[Bool.and_eq_true]at hrr;obtain⟨rfl,rfl⟩:=hrr;obtain⟨a1,a2,a3⟩:=Zal HLA.out;obtain⟨b1,b2,b3⟩:=Zal HLB.out;simp only at a1 a2 a3 b1 b2 b3;obtain⟨ks,hks⟩:∃ks,ZL ⟨ta,oa,A,c,B,d⟩ ⟨tb,ob,A',c',B',d'⟩=ks:=⟨_,rfl⟩;obtain⟨l,hl⟩:∃l,Za7 ⟨ta,oa,A,c,B,d⟩ ⟨tb,ob,A',c',B',d'⟩=l:=⟨_,rfl⟩;have hksl:ks.length≤1000000:=hks▸Zd4 HLA.out HLB.out;have ll1:l.length≤1048576:=hl▸Zk8 HRA.out HRB.out HLA.out HLB.out;have HLK:Hid (∀x∈l,x.e.key∈ks∧x.n≠0):=Qh fun x hx=>by rw[←hks];exact Zk7 HRA.out HRB.out (by rw[hl];exact hx)
    have HBK:Hid (∀p,∀x∈Zae ⟨ta,oa,A,c,B,d⟩ ⟨tb,ob,A',c',B',d'⟩ p++Zae ⟨tb,ob,A',c',B',d'⟩ ⟨ta,oa,A,c,B,d⟩ p,x.of.key∈ks):=Qh fun p x hx=>by
     rw[←hks];rcases List.mem_append.1 hx with h|h
     ·exact Zlp HRA.out HRB.out h
     ·exact Zmj HRA.out HRB.out h
    have HGL:Hid (∀p,(Zae ⟨ta,oa,A,c,B,d⟩ ⟨tb,ob,A',c',B',d'⟩ p).length≤288∧(Zae ⟨tb,ob,A',c',B',d'⟩ ⟨ta,oa,A,c,B,d⟩ p).length≤288):=Qh fun p=>⟨Nat.le_trans (List.length_filter_le _ _) (Zb9 HLA.out p),Nat.le_trans (List.length_filter_le _ _) (Zb9 HLB.out p)⟩
    have CO:=Qh (Zn3 (HAW.out _ hv5) (HBW.out _ hv5) HRA.out HRB.out (by omega) (by omega) (by omega) (by omega));have L1:(Zj ta tb).length≤12:=by have:(Zj ta tb).length≤ta.length:=List.length_filter_le _ _;omega
    have L2:(Zj tb ta).length≤12:=by have:(Zj tb ta).length≤tb.length:=List.length_filter_le _ _;omega
    have L3:(Zo oa ob).length≤24:=by have:(Zo oa ob).length≤oa.length:=List.length_filter_le _ _;omega
    have L4:(Zo ob oa).length≤24:=by have:(Zo ob oa).length≤ob.length:=List.length_filter_le _ _;omega
    have L5:∀t∈Zj ta tb++Zj tb ta,t.ops.length≤1000:=fun t ht=>by
     rcases List.mem_append.1 ht with h|h
     ·have:=a2 t (List.mem_filter.1 h).1;omega
     ·have:=b2 t (List.mem_filter.1 h).1;omega
    have CK:=Qh (fun(W:World) (v:Value) (h:DelX (fun i=>w5.heap.size≤i) W v (Zj ta tb) (Zj tb ta) (Zo oa ob) (Zo ob oa))=>Zk6 h (by omega) L5 (by omega));rw[show Za3 (twL (Zj ta tb++Zj tb ta)++(Zo oa ob++Zo ob oa).map (·.key))=ks from hks]at CK;have CD:=Qh (fun W (u:Upd No w2 W)=>Zi1 (HAW.out _ u) (HBW.out _ u) HRA.out HRB.out HLA.out HLB.out hl);have CB:=Qh (fun p W (u:Upd No w2 W)=>Zk3 p (HAW.out _ u) (HBW.out _ u) HRA.out HRB.out HLA.out HLB.out rfl rfl);clear hks hl L1 L2 L3 L4 L5 a1 a2 a3 b1 b2 b3
    go_wp2_with fail
    refine(CO.out).mono ?_;rintro e w6 ⟨v,rfl,hd,hu6⟩;have HD:=Qh hd;obtain⟨A1,c1,l1,A2,c2,l2,B1,d1x,o1,B2,d2x,o2,rfl,hd⟩:=hd;clear hd;obtain⟨w7,hw7⟩:∃w7,w6.alloc (.cells #[.slice A1 l1.length c1,.slice A2 l2.length c2,.slice B1 o1.length d1x,.slice B2 o2.length d2x] 61)=w7:=⟨_,rfl⟩;have u7:Upd No w6 w7:=by rw[←hw7];exact(Upd.refl No w6).alloc _
    have b7:Blk w7 w6.heap.size 61 [.slice A1 l1.length c1,.slice A2 l2.length c2,.slice B1 o1.length d1x,.slice B2 o2.length d2x]:=by rw[←hw7];exact Blk.new w6 _ _
    have f0:=b7.cell 0;have f1:=b7.cell 1;have f2:=b7.cell 2;have f3:=b7.cell 3;simp only[Qz,Qs]at f0 f1 f2 f3;have CK7:=Qh (CK.out w7 _ (HD.out.upd u7 (fun _ _=>id)));have hv7:=(hv5.trans hu6).trans u7;clear u7 b7 hu6
    go_wp2_with fail
    refine(CK7.out).mono ?_;rintro e w8 ⟨A8,c8,rfl,ho8,hu8⟩;have HK8:=Qh (Ints.of_owned ho8);have hv8:=hv7.trans hu8;clear ho8 f0 f1 f2 f3
    go_wp2_with fail
    refine(CD.out _ hv8).mono ?_;rintro e w9 ⟨A9,c9,rfl,ho9,hu9⟩;have HX9:=Qh (Recs.of_own Zew (by omega) ho9);have hv9:=hv8.trans hu9;have HK9:=Qh (HK8.out.upd hu9 (fun _ _=>id));have hz9:Upd No w9 w9:=Upd.refl _ _;clear ho9;go_wp2
    go_loopg [46] l.length (fun gk i wr=>∃k:Nat,k+gk=l.length∧i= .int .i64 (k:Int)∧Upd No w9 wr)
    case atStart=>exact⟨0,by omega,rfl,hz9⟩
    case round=>
     obtain⟨k,hgk,rfl,hu⟩:=hrel
     by_cases hlt:k<l.length
     ·obtain⟨ad,rfl,q0,q1,q2,q3,q4⟩:=Hvys.at_ (Recs.upd HX9.out hu (fun _ _=>id)) hlt;obtain⟨x,hx⟩:∃x,l[k]=x:=⟨_,rfl⟩;simp only[hx]at q0 q1 q2 q3 q4;obtain⟨hx1,hx2⟩:=HLK.out x (hx▸List.getElem_mem hlt);have hxn:(x.n==0)=false:=by simpa using hx2
      have i1:(0:Int)≤(k:Int):=Qn _;have i2:(k:Int)<(l.length:Int):=by omega
      obtain⟨wx,hwx⟩:∃wx,wr.alloc (.cells #[.int .i64 x.e.f,.int .i64 x.e.t,.int .i64 x.e.k,.int .i64 x.e.key,.int .i64 x.n] 55)=wx:=⟨_,rfl⟩;have ux:Upd No wr wx:=by rw[←hwx];exact(Upd.refl No wr).alloc _
      have bX:Blk wx wr.heap.size 55 [.int .i64 x.e.f,.int .i64 x.e.t,.int .i64 x.e.k,.int .i64 x.e.key,.int .i64 x.n]:=by rw[←hwx];exact Blk.new wr _ _
      have g3:=bX.cell 3;have g4:=bX.cell 4;simp only[Qz,Qs]at g3 g4;have CI:=Qh (ZnI wx _ A8 c8 ks x.e.key (HK9.out.upd (hu.trans ux) (fun _ _=>id)) (by omega) (v:=true) (decide_eq_true hx1));have HUX:=Qh (hu.trans ux);clear ux bX hx hx1 hx2
      go_wp2_with fail
      refine(CI.out).mono ?_;rintro e w10 ⟨rfl,rfl⟩;go_wp2
      go_roundg (gk-1)
      case measure=>omega
      case rel=>exact⟨k+1,by omega,by go_num,HUX.out⟩
     ·obtain rfl:k=l.length:=by omega
      have HU:=Qh hu;obtain⟨wq,hwq⟩:∃wq,wq=wr:=⟨_,rfl⟩;subst hwq;have hzq:Upd No wq wq:=Upd.refl _ _;have HVQ:=Qh (hv9.trans hu);have HKQ:=Qh (HK9.out.upd hu (fun _ _=>id));have e0:∀W,Upd No wq W→W.cell? ⟨z,0,none⟩=some (.slice A ta.length c):=fun W u=>d0 W (HVQ.out.trans u)
      have e1:∀W,Upd No wq W→W.cell? ⟨z,1,none⟩=some (.slice B oa.length d):=fun W u=>d1 W (HVQ.out.trans u)
      have e2:∀W,Upd No wq W→W.cell? ⟨z+1,0,none⟩=some (.slice A' tb.length c'):=fun W u=>d2 W (HVQ.out.trans u)
      have e3:∀W,Upd No wq W→W.cell? ⟨z+1,1,none⟩=some (.slice B' ob.length d'):=fun W u=>d3 W (HVQ.out.trans u)
      clear d0 d1 d2 d3 hu;go_wp2
      go_loopg [12] 2 (fun gk i wr=>∃(q:Nat) (p:Int),q+gk=2∧p=2+(q:Int)∧i= .int .i64 p∧Upd No wq wr)
      case atStart=>exact⟨0,2,by omega,by omega,rfl,hzq⟩
      case round=>
       obtain⟨q,p,hgq,hp,rfl,hu⟩:=hrel
       by_cases hq:q<2
       ·have p1:p≤3:=by omega
        have pw:IntKind.i64.wrap (p+1)=p+1:=IntWalk.i64_in _ (by omega);have HPQ:=Qh hp;clear hp;obtain⟨x1,hx1⟩:∃x1,Zae ⟨ta,oa,A,c,B,d⟩ ⟨tb,ob,A',c',B',d'⟩ p=x1:=⟨_,rfl⟩;obtain⟨x2,hx2⟩:∃x2,Zae ⟨tb,ob,A',c',B',d'⟩ ⟨ta,oa,A,c,B,d⟩ p=x2:=⟨_,rfl⟩;have hbk:=HBK.out p;obtain⟨hg1,hg2⟩:=HGL.out p;have hcb:=CB.out p wr (HVQ.out.trans hu);rw[hx1,hx2]at hbk hcb;rw[hx1]at hg1;rw[hx2]at hg2;have HBK2:=Qh hbk;have CBP:=Qh hcb;clear hx1 hx2 hbk hcb;obtain⟨wo,hwo⟩:∃wo,wo=wr:=⟨_,rfl⟩;subst hwo
        generalize gk=m0 at*
        go_wp2_with fail
        refine(CBP.out).mono ?_;rintro e w10 ⟨A10,c10,A11,c11,rfl,hb10,hb11,hu10⟩;have HB10:=Qh hb10;have HB11:=Qh hb11;have hv10:=hu.trans hu10
        have s1e:=Qh (show Src (w10.alloc (.cells #[] 38)) A10 x1.length 5 (x1.map HBad.cells).flatten by
         have:=Recs.src (Bads.upd hb10 ((Upd.refl No w10).alloc (.cells #[] 38)) (fun _ _=>id)) ZaG
         rwa [List.length_map]at this)
        have s2e:Hid (∀W,Upd No w10 W→Src W A11 x2.length 5 (x2.map HBad.cells).flatten):=Qh fun W u=>by
         have:=Recs.src (Bads.upd HB11.out u (fun _ _=>id)) ZaG
         rwa [List.length_map]at this
        have tok:True:=trivial;obtain⟨N,hN⟩:∃N,x1.length+x2.length=N:=⟨_,rfl⟩;clear hb10 hb11
        go_wp2_with (first
         |(at_builtin;have _t:=tok;refine Zem rfl rfl Zcs (base:=w10.heap.size) (v:= .slice (some ⟨w10.heap.size,0,none⟩) 0 0) (n:=0) (m:=x1.length) (xs:=[]) (by rfl) (by rfl) (ZiK rfl (Nat.le_refl _)) s1e.out Zfe (by omega) (by omega) (by simp) ?_;intro v4 w4' hown4 hu4' hg4;clear tok;simp only[Nat.zero_add,List.nil_append]at hown4;obtain⟨A12,c12,rfl⟩:=Zar hown4;have uw4:Upd No w10 w4':=((Upd.refl No w10).alloc _).then_ hu4' (fun i e=> .inr (ZfA e)))
         |(at_builtin;refine Zem rfl rfl Zcs (n:=x1.length) (m:=x2.length) (by rfl) (by rfl) hown4 (s2e.out _ uw4) Zfe (by omega) (by omega) (by exact uw4.size) ?_;intro v5 w5' hown5 hu5' hg5;obtain⟨A13,c13,rfl⟩:=Zar hown5;have uw5:Upd No w10 w5':=uw4.then_ hu5' (fun i e=> .inr (hown4.lt i e).1);rw[hN]at hown5 ⊢))
        obtain⟨ll,hll⟩:∃ll,x1++x2=ll:=⟨_,rfl⟩;have hlen:ll.length=N:=by rw[←hll,List.length_append,hN]
        have hfl:(x1.map HBad.cells).flatten++(x2.map HBad.cells).flatten=(ll.map HBad.cells).flatten:=by rw[←hll,List.map_append,List.flatten_append]
        rw[hfl]at hown5;have HLL:=Qh (Recs.of_own ZaG (by omega) hown5);have HZK:=Qh (show∀x∈ll,x.of.key∈ks by rw[←hll];exact HBK2.out);have HK5:=Qh (HKQ.out.upd (hv10.trans uw5) (fun _ _=>id));have HU5:=Qh (hv10.trans uw5);have h5z:Upd No w5' w5':=Upd.refl _ _;have HLEN:=Qh hlen;clear hown5 hown4 hu5' hu4' hg4 hg5 uw4 uw5 hfl hll hlen;go_wp2
        go_loopg [80] N (fun gk i wr=>∃k:Nat,k+gk=N∧i= .int .i64 (k:Int)∧Upd No w5' wr)
        case atStart=>exact⟨0,by omega,rfl,h5z⟩
        case round=>
         obtain⟨k,hgk,rfl,hu⟩:=hrel
         by_cases hlt:k<N
         ·have hlt2:k<ll.length:=by rw[HLEN.out];exact hlt
          obtain⟨ad,rfl,q0,q1,q2,q3,q4⟩:=Bads.at_ (Bads.upd HLL.out hu (fun _ _=>id)) hlt2;obtain⟨x,hx⟩:∃x,ll[k]=x:=⟨_,rfl⟩;simp only[hx]at q0 q1 q2 q3 q4;have hx1:=HZK.out x (hx▸List.getElem_mem hlt2);have i1:(0:Int)≤(k:Int):=Qn _;have i2:(k:Int)<(N:Int):=by omega
          obtain⟨wx,hwx⟩:∃wx,wr.alloc (.cells #[.int .i64 x.tx,.int .i64 x.place,.int .i64 x.of.tx,.int .i64 x.of.key,.int .i64 x.of.nth] 38)=wx:=⟨_,rfl⟩;have ux:Upd No wr wx:=by rw[←hwx];exact(Upd.refl No wr).alloc _
          have bX:Blk wx wr.heap.size 38 [.int .i64 x.tx,.int .i64 x.place,.int .i64 x.of.tx,.int .i64 x.of.key,.int .i64 x.of.nth]:=by rw[←hwx];exact Blk.new wr _ _
          have g3:=bX.cell 3;simp only[Qz,Qs]at g3;have CI:=Qh (ZnI wx _ A8 c8 ks x.of.key (HK5.out.upd (hu.trans ux) (fun _ _=>id)) (by omega) (v:=true) (decide_eq_true hx1));have HUX:=Qh (hu.trans ux);clear ux bX hx hx1
          go_wp2_with fail
          refine(CI.out).mono ?_;rintro e w11 ⟨rfl,rfl⟩;go_wp2
          go_roundg (gk-1)
          case measure=>omega
          case rel=>exact⟨k+1,by omega,by go_num,HUX.out⟩
         ·obtain rfl:k=N:=by omega
          go_wp2
          go_roundg (m0-1)
          case measure=>omega
          case rel=>exact⟨q+1,p+1,by omega,by have:=HPQ.out;omega,rfl,HU5.out.trans hu⟩
       ·obtain rfl:q=2:=by omega
        have p1:¬p≤3:=by omega
        go_wp2
        go_ret
        exact⟨rfl,UB.out.trans (HVQ.out.trans hu)⟩
   ·have hrf:(ra&&rb)=false:=by simpa using hrr
    have HRR:=Qh (show(Za ⟨ta,oa,A,c,B,d⟩&&Za ⟨tb,ob,A',c',B',d'⟩)=false by rw[HRA.out,HRB.out];exact hrf);have CO:=Qh (Zi3 (HAW.out _ hv5) (HBW.out _ hv5) HRR.out);clear hrr
    go_wp2_with fail
    refine(CO.out).mono ?_;rintro e w6 ⟨rfl,hu6⟩;go_wp2
    go_ret
    exact⟨rfl,(UB.out.trans (hv5.trans hu6)).alloc _⟩
end
end
end Go.Proofs.YtblplapkdmhikaaGreat
