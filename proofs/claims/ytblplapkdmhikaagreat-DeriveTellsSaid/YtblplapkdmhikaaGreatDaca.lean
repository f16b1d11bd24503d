/- How bad reads change: derive.Bads. -/
import Derived.Test.YtblplapkdmhikaaGreatDaar
import Derived.Test.YtblplapkdmhikaaGreatDabo
import Derived.Test.YtblplapkdmhikaaGreatDabu
import Derived.Test.YtblplapkdmhikaaGreatDabv
import Derived.Test.YtblplapkdmhikaaGreatDabz
namespace Go.Proofs.YtblplapkdmhikaaGreat
set_option linter.unusedVariables false
set_option linter.unusedSimpArgs false
section
open Go.RowKit
def bdF (l:List HBad):List Value:=(l.map HBad.cells).flatten
theorem Zfh (l:List HBad) (x:HBad):bdF (l++[x])=bdF l++x.cells:=by unfold bdF;simp
theorem Zhn (txs:List HTx) (p:Int) (t:HTx):∀(l:List HOp) (i:Nat) (acc:List HBad),(Zad txs p t i acc l).length≤acc.length+l.length
 |[],i,acc=>by show acc.length≤_;simp
 |o::l,i,acc=>by
  rw[Zf8];refine Nat.le_trans (Zhn txs p t l (i+1) _) ?_
  split<;>simp<;>omega
theorem Zho (txs:List HTx) (p:Int):∀(l:List HTx) (acc:List HBad),(∀t∈l,t.ops.length≤24)→(ZaG txs p acc l).length≤acc.length+24*l.length
 |[],acc,_=>by show acc.length≤_;simp
 |t::l,acc,h=>by
  rw[Zf9];have h1:=Zho txs p l (Zad txs p t 0 acc t.ops) fun u hu=>h u (List.mem_cons_of_mem _ hu)
  have h2:=Zhn txs p t t.ops 0 acc;have h3:=h t (List.mem_cons_self ..);rw[List.length_cons];omega
theorem Zch {h:Hist} (hl:Zj h=true) (p:Int):(ZE h p).length≤288:=by
 obtain⟨a1,a2,_⟩:=Zar hl;unfold ZE
 split
 ·have:=Zho h.txs p h.txs [] a2;simp only[List.length_nil]at this;omega
 ·simp
theorem Zhb {a b:Hist} (hl:Zj a=true) {p:Int} {ks:List Int} (hn:ks.Nodup):(Zac a b p ks).length≤288:=
 Nat.le_trans (ZaU _ (ZE a p) (Zc3 hn) fun x hx=>(mem_goneK.1 hx).2.1) (Zch hl p)
theorem ZfW (a b:Hist) (p:Int) (q:List Int) (key:Int):Zac a b p (q++[key])=Zac a b p q++(ofK a p key).filter fun x=> !(ofK b p key).contains x:=by
 unfold Zac;rw[List.flatMap_append];simp
structure BW (w:World) (zo z5:Nat) (A7:Option Addr) (La:List HBad) (A8:Option Addr) (Lb:List HBad) (v6 v7:Value):Prop where
 l:Bads (fun i=>zo≤i∧i<z5) w A7 La
 r:Bads (fun i=>zo≤i∧i<z5) w A8 Lb
 a:∀i,Own v6 i→i<zo∨z5≤i
 b:∀i,Own v7 i→i<zo∨z5≤i
 z:z5≤w.heap.size
section
variable {w w':World} {zo z5:Nat} {A7 A8:Option Addr} {La Lb:List HBad} {v6 v7:Value}
theorem BW.upd (h:BW w zo z5 A7 La A8 Lb v6 v7) (u:Upd No w w'):BW w' zo z5 A7 La A8 Lb v6 v7:=⟨Bads.upd h.l u (fun _ _=>id),Bads.upd h.r u (fun _ _=>id),h.a,h.b,Nat.le_trans h.z u.size⟩
theorem BW.left {g n c:Nat} (h:BW w zo z5 A7 La A8 Lb v6 v7) (u:Upd (Own v6) w w') (hg:v6.ownBlock=some g∨w.heap.size≤g):BW w' zo z5 A7 La A8 Lb (.slice (some ⟨g,0,none⟩) n c) v7:=
 ⟨Bads.upd h.l u (fun i hi e=>by have:=h.a i e;omega),Bads.upd h.r u (fun i hi e=>by have:=h.a i e;omega),fun i f=>by
  have hgi:g=i:=by simpa[Own,Value.ownBlock]using f
  subst hgi;rcases hg with hg|hg
  ·exact h.a _ hg
  ·exact .inr (Nat.le_trans h.z hg),h.b,Nat.le_trans h.z u.size⟩
theorem BW.right {g n c:Nat} (h:BW w zo z5 A7 La A8 Lb v6 v7) (u:Upd (Own v7) w w') (hg:v7.ownBlock=some g∨w.heap.size≤g):BW w' zo z5 A7 La A8 Lb v6 (.slice (some ⟨g,0,none⟩) n c):=
 ⟨Bads.upd h.l u (fun i hi e=>by have:=h.b i e;omega),Bads.upd h.r u (fun i hi e=>by have:=h.b i e;omega),h.a,fun i f=>by
  have hgi:g=i:=by simpa[Own,Value.ownBlock]using f
  subst hgi;rcases hg with hg|hg
  ·exact h.b _ hg
  ·exact .inr (Nat.le_trans h.z hg),Nat.le_trans h.z u.size⟩
end
section
variable {F G:Nat→Prop} {w:World} {ta tb:List HTx} {oa ob:List HOrd} {A A':Option Addr} {c c':Nat} {B B':Option Addr} {d d':Nat}
set_option maxRecDepth 100000 in
set_option maxHeartbeats 2000000 in
theorem Zhj (p:Int) (HA:Hist.lies F w ⟨ta,oa,A,c,B,d⟩) (HB:Hist.lies G w ⟨tb,ob,A',c',B',d'⟩) (hr:(Za ⟨ta,oa,A,c,B,d⟩&&Za ⟨tb,ob,A',c',B',d'⟩)=false):
  Calls Tryz.prog 26 #[.agg #[.slice A ta.length c,.slice B oa.length d],.agg #[.slice A' tb.length c',.slice B' ob.length d'],.int .i64 p] w fun e w'=>e= .returned (.tuple #[.slice none 0 0,.slice none 0 0,.int .i64 5])∧Upd No w w':=by
 obtain⟨z,hz⟩:∃z,w.heap.size=z:=⟨_,rfl⟩;obtain⟨w1,hw1⟩:∃w1,w.alloc (.cells #[.slice A ta.length c,.slice B oa.length d] 29)=w1:=⟨_,rfl⟩;have s1:w1.heap.size=z+1:=by rw[←hw1,←hz];simp
 obtain⟨w2,hw2⟩:∃w2,w1.alloc (.cells #[.slice A' tb.length c',.slice B' ob.length d'] 29)=w2:=⟨_,rfl⟩;have s2:w2.heap.size=z+1+1:=by rw[←hw2,←s1];simp
 have u1:Upd No w w1:=by rw[←hw1];exact(Upd.refl No w).alloc _
 have u2:Upd No w1 w2:=by rw[←hw2];exact(Upd.refl No w1).alloc _
 have bA:Blk w2 z 29 [.slice A ta.length c,.slice B oa.length d]:=by
  have:Blk w1 z 29 [.slice A ta.length c,.slice B oa.length d]:=by rw[←hw1,←hz];exact Blk.new w _ _
  exact this.upd u2 id
 have bB:Blk w2 (z+1) 29 [.slice A' tb.length c',.slice B' ob.length d']:=by rw[←hw2,←s1];exact Blk.new w1 _ _
 have d0:∀W,Upd No w2 W→W.cell? ⟨z,0,none⟩=some (.slice A ta.length c):=fun W u=>(bA.upd u id).cell 0
 have d1:∀W,Upd No w2 W→W.cell? ⟨z,1,none⟩=some (.slice B oa.length d):=fun W u=>(bA.upd u id).cell 1
 have d2:∀W,Upd No w2 W→W.cell? ⟨z+1,0,none⟩=some (.slice A' tb.length c'):=fun W u=>(bB.upd u id).cell 0
 have d3:∀W,Upd No w2 W→W.cell? ⟨z+1,1,none⟩=some (.slice B' ob.length d'):=fun W u=>(bB.upd u id).cell 1
 have hxz:Upd No w2 w2:=Upd.refl _ _;have UB:=Qh (u1.trans u2);have CA:=Qh (Zeh (HA.upd UB.out (fun _ _=>id)) (HB.upd UB.out (fun _ _=>id)) hr);clear HA HB bA bB u1 u2 hr
 go_enter Tryz.func26,Tryz.ntmps26
 go_wp2_with fail
 refine(CA.out).mono ?_;rintro e w3 ⟨rfl,hu3⟩;go_wp2;refine bodyPost_ret (v:= .tuple #[.slice none 0 0,.slice none 0 0,.int .i64 5]) (by simp[results,Tryz.results26,go_sem]) rfl ?_;exact⟨rfl,UB.out.trans hu3⟩
set_option maxRecDepth 100000 in
set_option maxHeartbeats 8000000 in
theorem Zk7 (p:Int) (HA:Hist.lies F w ⟨ta,oa,A,c,B,d⟩) (HB:Hist.lies G w ⟨tb,ob,A',c',B',d'⟩) (hra:Za ⟨ta,oa,A,c,B,d⟩=true) (hrb:Za ⟨tb,ob,A',c',B',d'⟩=true) (la:Zj ⟨ta,oa,A,c,B,d⟩=true) (lb:Zj ⟨tb,ob,A',c',B',d'⟩=true)
  {l m:List HBad} (hl:ZaN ⟨ta,oa,A,c,B,d⟩ ⟨tb,ob,A',c',B',d'⟩ p=l) (hm:ZaN ⟨tb,ob,A',c',B',d'⟩ ⟨ta,oa,A,c,B,d⟩ p=m):
  Calls Tryz.prog 26 #[.agg #[.slice A ta.length c,.slice B oa.length d],.agg #[.slice A' tb.length c',.slice B' ob.length d'],.int .i64 p] w fun e w'=>∃A1 c1 A2 c2,e= .returned (.tuple #[.slice A1 l.length c1,.slice A2 m.length c2,.int .i64 0])∧Bads (fun _=>True) w' A1 l∧Bads (fun _=>True) w' A2 m∧Upd No w w':=by
 obtain⟨ks,hks⟩:∃ks,ZT ⟨ta,oa,A,c,B,d⟩ ⟨tb,ob,A',c',B',d'⟩=ks:=⟨_,rfl⟩;have hksl:ks.length≤1000000:=hks▸Zg8 la lb;have HND:=Qh (show ks.Nodup from hks▸Zb4);have HWE:=Qh (show Za5 (Zac ⟨ta,oa,A,c,B,d⟩ ⟨tb,ob,A',c',B',d'⟩ p ks)=l by rw[←hks,←hl];exact ZmS hra hrb);have HCA:=Qh (show Za5 (Zac ⟨tb,ob,A',c',B',d'⟩ ⟨ta,oa,A,c,B,d⟩ p ks)=m by rw[←hks,←hm];exact Znw hra hrb);have FW:=Qh (fun(q:List Int) (hn:q.Nodup)=>Zhb (a:=⟨ta,oa,A,c,B,d⟩) (b:=⟨tb,ob,A',c',B',d'⟩) la (p:=p) hn);have FC:=Qh (fun(q:List Int) (hn:q.Nodup)=>Zhb (a:=⟨tb,ob,A',c',B',d'⟩) (b:=⟨ta,oa,A,c,B,d⟩) lb (p:=p) hn);have FA:=Qh (Zch la p);have FB:=Qh (Zch lb p);obtain⟨z,hz⟩:∃z,w.heap.size=z:=⟨_,rfl⟩;obtain⟨w1,hw1⟩:∃w1,w.alloc (.cells #[.slice A ta.length c,.slice B oa.length d] 29)=w1:=⟨_,rfl⟩;have s1:w1.heap.size=z+1:=by rw[←hw1,←hz];simp
 obtain⟨w2,hw2⟩:∃w2,w1.alloc (.cells #[.slice A' tb.length c',.slice B' ob.length d'] 29)=w2:=⟨_,rfl⟩;have s2:w2.heap.size=z+1+1:=by rw[←hw2,←s1];simp
 have u1:Upd No w w1:=by rw[←hw1];exact(Upd.refl No w).alloc _
 have u2:Upd No w1 w2:=by rw[←hw2];exact(Upd.refl No w1).alloc _
 have bA:Blk w2 z 29 [.slice A ta.length c,.slice B oa.length d]:=by
  have:Blk w1 z 29 [.slice A ta.length c,.slice B oa.length d]:=by rw[←hw1,←hz];exact Blk.new w _ _
  exact this.upd u2 id
 have bB:Blk w2 (z+1) 29 [.slice A' tb.length c',.slice B' ob.length d']:=by rw[←hw2,←s1];exact Blk.new w1 _ _
 have UB:=Qh (u1.trans u2);have CT:=Qh (Zhi (HA.upd UB.out (fun _ _=>id)) (HB.upd UB.out (fun _ _=>id)) hra hrb la lb hks);have HAW:=Qh (fun W (u:Upd No w2 W)=>HA.upd (UB.out.trans u) (fun _ _=>id));have HBW:=Qh (fun W (u:Upd No w2 W)=>HB.upd (UB.out.trans u) (fun _ _=>id));have d0:∀W,Upd No w2 W→W.cell? ⟨z,0,none⟩=some (.slice A ta.length c):=fun W u=>(bA.upd u id).cell 0
 have d1:∀W,Upd No w2 W→W.cell? ⟨z,1,none⟩=some (.slice B oa.length d):=fun W u=>(bA.upd u id).cell 1
 have d2:∀W,Upd No w2 W→W.cell? ⟨z+1,0,none⟩=some (.slice A' tb.length c'):=fun W u=>(bB.upd u id).cell 0
 have d3:∀W,Upd No w2 W→W.cell? ⟨z+1,1,none⟩=some (.slice B' ob.length d'):=fun W u=>(bB.upd u id).cell 1
 have hxz:Upd No w2 w2:=Upd.refl _ _;clear HA HB bA bB u1 u2 hra hrb la lb hks hl hm
 go_enter Tryz.func26,Tryz.ntmps26
 go_wp2_with fail
 refine(CT.out).mono ?_;rintro e w3 ⟨A3,c3,rfl,ho3,hu3⟩;have HK:=Qh (Ints.weak (G:=fun i=>i<w3.heap.size) (Ints.of_owned ho3) (fun i h _=>h));have hz3:=hu3.size;clear ho3;go_wp2
 go_loopg [6,7,29] ks.length (fun gk s t i wr=>∃(j:Nat) (A5:Option Addr) (c5:Nat) (A6:Option Addr) (c6:Nat) (xs ys:List HBad),j+gk=ks.length∧i= .int .i64 (j:Int)∧s= .slice A5 xs.length c5∧t= .slice A6 ys.length c6∧
  Hid (xs=Zac ⟨ta,oa,A,c,B,d⟩ ⟨tb,ob,A',c',B',d'⟩ p (ks.take j))∧Hid (ys=Zac ⟨tb,ob,A',c',B',d'⟩ ⟨ta,oa,A,c,B,d⟩ p (ks.take j))∧Hid (TwoW wr w3.heap.size 38 5 (.slice A5 xs.length c5) xs.length (bdF xs) 38 5 (.slice A6 ys.length c6) ys.length (bdF ys))∧Upd No w3 wr)
 case atStart=>exact⟨0,none,0,none,0,[],[],by omega,rfl,rfl,rfl,Qh rfl,Qh rfl,Qh (TwoW.nil _ _ _ _ _ _),Upd.refl _ _⟩
 case round=>
  obtain⟨j,A5,c5,A6,c6,xs,ys,hgj,rfl,rfl,rfl,hxs,hys,hT,hu⟩:=hrel;have hnt:∀j,(ks.take j).Nodup:=fun j=>HND.out.sublist (List.take_sublist _ _)
  have hxl:xs.length≤288:=by rw[hxs.out];exact FW.out _ (hnt j)
  have hyl:ys.length≤288:=by rw[hys.out];exact FC.out _ (hnt j)
  clear hnt
  by_cases hltj:j<ks.length
  ·obtain⟨ad,hAd,_,_,hc⟩:=(HK.out.upd hu (fun _ _=>id)).at_ hltj;obtain⟨key,hkey⟩:∃key,ks[j]=key:=⟨_,rfl⟩;rw[hkey]at hc;have HKT:=Qh (show ks.take (j+1)=ks.take j++[key] by rw[List.take_succ_eq_append_getElem hltj,hkey]);have j1:(0:Int)≤(j:Int):=Qn _;have j2:(j:Int)<(ks.length:Int):=by omega
   have jw:IntKind.i64.wrap ((j:Int)+1)=(j:Int)+1:=IntWalk.i64_in _ (by omega);obtain⟨La,hLa⟩:∃La,ofK ⟨ta,oa,A,c,B,d⟩ p key=La:=⟨_,rfl⟩;obtain⟨Lb,hLb⟩:∃Lb,ofK ⟨tb,ob,A',c',B',d'⟩ p key=Lb:=⟨_,rfl⟩;have UW:=Qh (hu3.trans hu);have CA:=Qh (fun W (u:Upd No w2 W)=>(by have h:=ZkE _ W ta oa A c B d p key (HAW.out W u);rw[show(ZE ⟨ta,oa,A,c,B,d⟩ p).filter (fun b=>b.of.key==key)=La from hLa]at h;exact h:Calls Tryz.prog 88 #[.agg #[.slice A ta.length c,.slice B oa.length d],.int .i64 p,.int .i64 key] W (Zbb W La)));have CB:=Qh (fun W (u:Upd No w2 W)=>(by have h:=ZkE _ W tb ob A' c' B' d' p key (HBW.out W u);rw[show(ZE ⟨tb,ob,A',c',B',d'⟩ p).filter (fun b=>b.of.key==key)=Lb from hLb]at h;exact h:Calls Tryz.prog 88 #[.agg #[.slice A' tb.length c',.slice B' ob.length d'],.int .i64 p,.int .i64 key] W (Zbb W Lb)));have lla:La.length≤288:=by rw[←hLa];exact Nat.le_trans (List.length_filter_le _ _) FA.out
   have llb:Lb.length≤288:=by rw[←hLb];exact Nat.le_trans (List.length_filter_le _ _) FB.out
   have HGX:=Qh (show Zac ⟨ta,oa,A,c,B,d⟩ ⟨tb,ob,A',c',B',d'⟩ p (ks.take (j+1))=xs++La.filter (fun x=> !Lb.contains x) by rw[HKT.out,ZfW,hLa,hLb,hxs.out]);have HGY:=Qh (show Zac ⟨tb,ob,A',c',B',d'⟩ ⟨ta,oa,A,c,B,d⟩ p (ks.take (j+1))=ys++Lb.filter (fun x=> !La.contains x) by rw[HKT.out,ZfW,hLa,hLb,hys.out]);have e0:∀W,Upd No wr W→W.cell? ⟨z,0,none⟩=some (.slice A ta.length c):=fun W u=>d0 W (UW.out.trans u)
   have e1:∀W,Upd No wr W→W.cell? ⟨z,1,none⟩=some (.slice B oa.length d):=fun W u=>d1 W (UW.out.trans u)
   have e2:∀W,Upd No wr W→W.cell? ⟨z+1,0,none⟩=some (.slice A' tb.length c'):=fun W u=>d2 W (UW.out.trans u)
   have e3:∀W,Upd No wr W→W.cell? ⟨z+1,1,none⟩=some (.slice B' ob.length d'):=fun W u=>d3 W (UW.out.trans u)
   have hrz:Upd No wr wr:=Upd.refl _ _;have D0:=Qh (And.intro d0 (And.intro d1 (And.intro d2 d3)));obtain⟨wo,hwo⟩:∃wo,wo=wr:=⟨_,rfl⟩;subst hwo
   generalize gk=m0 at*
   subst hAd;clear hkey hLa hLb hxs hys d0 d1 d2 d3;go_wp2;refine wp_region_noPanic ?_;refine wp_region_held_drew (S:=(fun W'=>Upd No wo W')) (by kernel_rfl) ?_ (fun hHeld=> ?_)
   ·(first|with_reducible exact hrz.drew|with_reducible exact hHeld.trans hu7|with_reducible exact hHeld.trans hu8)
   refine wpK 0 rfl ?_;refine wpK 1 rfl ?_;refine wpK 2 rfl ?_;refine wpK 4 rfl ?_;refine wpK 5 rfl ?_;refine wpK 6 rfl ?_;refine wpR [3] ?_;refine wpC rfl (fun K hK=> ?_) AllReadyH.nil;go_simp
   (first
  |(go_at_call 88;refine(CA.out _ (UW.out.trans hHeld)).mono ?_;rintro e w7 ⟨A7,c7,rfl,ho7,hu7⟩))
   try (go_wp2_with fail)
   refine hK.out _ _ ?_ (fun hHeld=> ?_)
   ·(first|with_reducible exact hrz.drew|with_reducible exact hHeld.trans hu7|with_reducible exact hHeld.trans hu8)
   clear hK K
   try simp only[Act.put,sT,sS,sZ]
   refine wpR [7] ?_;refine wpC rfl (fun K hK=> ?_) AllReadyH.nil;go_simp
   (first
  |(go_at_call 88;refine(CB.out _ (UW.out.trans hHeld)).mono ?_;rintro e w8 ⟨A8,c8,rfl,ho8,hu8⟩))
   try (go_wp2_with fail)
   refine hK.out _ _ ?_ (fun hHeld=> ?_)
   ·(first|with_reducible exact hrz.drew|with_reducible exact hHeld.trans hu7|with_reducible exact hHeld.trans hu8)
   clear hK K
   try simp only[Act.put,sT,sS,sZ]
   refine wpK 8 rfl ?_;refine wpK 9 rfl ?_;refine wpD (NoPanic.normal ?_);have hz78:=hu8.size;have hzo7:wo.heap.size≤w7.heap.size:=hu7.of_drew.size;have HB8:Hid (BW w8 wo.heap.size w8.heap.size A7 La A8 Lb (.slice A5 xs.length c5) (.slice A6 ys.length c6)):=Qh ⟨Bads.upd (Recs.weak (G:=fun i=>wo.heap.size≤i∧i<w8.heap.size) (Recs.of_own Zbn (by omega) ho7) (fun i hi e=>⟨(ho7.lt i e).1,by omega⟩)) hu8 (fun _ _=>id),Recs.weak (G:=fun i=>wo.heap.size≤i∧i<w8.heap.size) (Recs.of_own Zbn (by omega) ho8) (fun i hi e=>⟨Nat.le_trans hzo7 (ho8.lt i e).1,hi⟩),fun i e=> .inl (hT.out.l.lt i e).2,fun i e=> .inl (hT.out.r.lt i e).2,Nat.le_refl _⟩;have HT8:=Qh (hT.out.upd (hu7.of_drew.trans hu8) (fun _ _=>id));have HU8:=Qh (hu.trans (hu7.of_drew.trans hu8));clear hHeld ho7 ho8 hu7 hu8 hT e0 e1 e2 e3 hrz hu;go_wp2
   go_loopg [6,43] La.length (fun gk s i wr=>∃(k:Nat) (A9:Option Addr) (c9:Nat) (rs:List HBad),k+gk=La.length∧i= .int .i64 (k:Int)∧s= .slice A9 rs.length c9∧Hid (rs=xs++(La.take k).filter fun x=> !Lb.contains x)∧Hid (TwoW wr w3.heap.size 38 5 (.slice A9 rs.length c9) rs.length (bdF rs) 38 5 (.slice A6 ys.length c6) ys.length (bdF ys))∧Hid (BW wr wo.heap.size w8.heap.size A7 La A8 Lb (.slice A9 rs.length c9) (.slice A6 ys.length c6))∧Upd No w3 wr)
   case atStart=>exact⟨0,A5,c5,xs,by omega,rfl,rfl,Qh (by simp),HT8,HB8,HU8.out⟩
   case round=>
    obtain⟨k,A9,c9,rs,hgk,rfl,rfl,hs,hT,hB,hu⟩:=hrel
    have hrl:rs.length≤600:=by
     rw[hs.out,List.length_append];have h1:((La.take k).filter fun x=> !Lb.contains x).length≤(La.take k).length:=List.length_filter_le _ _;have h2:=List.length_take_le k La;omega
    by_cases hlt:k<La.length
    ·obtain⟨ad,hAd,q0,q1,q2,q3,q4⟩:=Bads.at_ hB.out.l hlt;obtain⟨x,hx⟩:∃x,La[k]=x:=⟨_,rfl⟩;simp only[hx]at q0 q1 q2 q3 q4;have HS:=Qh (Zbw (fun x=> !Lb.contains x) hlt hx);obtain⟨xx,xp,⟨xt,xk,xn⟩⟩:=x;simp only at q0 q1 q2 q3 q4;have i1:(0:Int)≤(k:Int):=Qn _;have i2:(k:Int)<(La.length:Int):=by omega
     clear hx;obtain⟨wx,hwx⟩:∃wx,wr.alloc (.cells #[.int .i64 xx,.int .i64 xp,.int .i64 xt,.int .i64 xk,.int .i64 xn] 38)=wx:=⟨_,rfl⟩;have ux:Upd No wr wx:=by rw[←hwx];exact(Upd.refl No wr).alloc _
     have bX:Blk wx wr.heap.size 38 [.int .i64 xx,.int .i64 xp,.int .i64 xt,.int .i64 xk,.int .i64 xn]:=by rw[←hwx];exact Blk.new wr _ _
     have f0:∀W,Upd No wx W→W.cell? ⟨wr.heap.size,0,none⟩=some (.int .i64 xx):=fun W u=>(bX.upd u id).cell 0
     have f1:∀W,Upd No wx W→W.cell? ⟨wr.heap.size,1,none⟩=some (.int .i64 xp):=fun W u=>(bX.upd u id).cell 1
     have f2:∀W,Upd No wx W→W.cell? ⟨wr.heap.size,2,none⟩=some (.int .i64 xt):=fun W u=>(bX.upd u id).cell 2
     have f3:∀W,Upd No wx W→W.cell? ⟨wr.heap.size,3,none⟩=some (.int .i64 xk):=fun W u=>(bX.upd u id).cell 3
     have f4:∀W,Upd No wx W→W.cell? ⟨wr.heap.size,4,none⟩=some (.int .i64 xn):=fun W u=>(bX.upd u id).cell 4
     have hxz:Upd No wx wx:=Upd.refl _ _;obtain⟨v,hv⟩:∃v,Lb.contains (⟨xx,xp,⟨xt,xk,xn⟩⟩:HBad)=v:=⟨_,rfl⟩;have HV:=Qh hv;have CC:=Qh (ZmL (c:=c8) (Bads.upd hB.out.r ux (fun _ _=>id)) (by omega) hv);have HT:=Qh (hT.out.upd ux (fun _ _=>id));have HBX:=Qh (hB.out.upd ux);have HUX:=Qh (hu.trans ux);subst hAd;clear ux bX hT hB hv hu
     cases v with
     |false=>
      go_wp2_with fail
      refine(CC.out).mono ?_;rintro e w4 ⟨rfl,hu4⟩;have HT4:=Qh (HT.out.upd hu4 (fun _ _=>id));have HB4:=Qh (HBX.out.upd hu4);have HO4:=Qh (HT4.out.l);have hz4:=(HUX.out.trans hu4).size;have HU4:=Qh (HUX.out.trans hu4)
      go_wp2_with (at_builtin;refine Z4 rfl rfl Zcy (v:= .slice A9 rs.length c9) (n:=rs.length) (xs:=bdF rs) (cells:=[.int .i64 xx,.int .i64 xp,.int .i64 xt,.int .i64 xk,.int .i64 xn]) (by rfl) rfl HO4.out rfl rfl (by omega) (by omega) (by omega) ?_;intro g6 c6 w6 hown6 hu6 hg6 hlt6)
      go_roundg (gk-1)
      case measure=>omega
      case rel=>
       have hl1:(rs++[(⟨xx,xp,⟨xt,xk,xn⟩⟩:HBad)]).length=rs.length+1:=by simp
       exact⟨k+1,some ⟨g6,0,none⟩,c6,rs++[⟨xx,xp,⟨xt,xk,xn⟩⟩],by omega,by go_num,by rw[hl1],Qh (by rw[HS.out,HV.out,hs.out,List.append_assoc];rfl),Qh (by rw[hl1,Zfh];exact HT4.out.left hown6 hu6 hg6),Qh (by rw[hl1];exact HB4.out.left hu6 hg6),HU4.out.then_ hu6 (fun i e=>Or.inr (HO4.out.lt i e).1)⟩
     |true=>
      go_wp2_with fail
      refine(CC.out).mono ?_;rintro e w4 ⟨rfl,hu4⟩;go_wp2
      go_roundg (gk-1)
      case measure=>omega
      case rel=>exact⟨k+1,A9,c9,rs,by omega,by go_num,rfl,Qh (by rw[HS.out,HV.out,hs.out];simp),Qh (HT.out.upd hu4 (fun _ _=>id)),Qh (HBX.out.upd hu4),HUX.out.trans hu4⟩
    ·obtain rfl:k=La.length:=by omega
     have HX:=Qh (show rs=Zac ⟨ta,oa,A,c,B,d⟩ ⟨tb,ob,A',c',B',d'⟩ p (ks.take (j+1)) by rw[HGX.out,hs.out,List.take_length]);clear hs;go_wp2
     go_loopg [7,58] Lb.length (fun gk s i wr=>∃(k:Nat) (A10:Option Addr) (c10:Nat) (rt:List HBad),k+gk=Lb.length∧i= .int .i64 (k:Int)∧s= .slice A10 rt.length c10∧Hid (rt=ys++(Lb.take k).filter fun x=> !La.contains x)∧Hid (TwoW wr w3.heap.size 38 5 (.slice A9 rs.length c9) rs.length (bdF rs) 38 5 (.slice A10 rt.length c10) rt.length (bdF rt))∧Hid (BW wr wo.heap.size w8.heap.size A7 La A8 Lb (.slice A9 rs.length c9) (.slice A10 rt.length c10))∧Upd No w3 wr)
     case atStart=>exact⟨0,A6,c6,ys,by omega,rfl,rfl,Qh (by simp),hT,hB,hu⟩
     case round=>
      obtain⟨k,A10,c10,rt,hgk,rfl,rfl,hs,hT,hB,hu⟩:=hrel
      have hrl:rt.length≤600:=by
       rw[hs.out,List.length_append];have h1:((Lb.take k).filter fun x=> !La.contains x).length≤(Lb.take k).length:=List.length_filter_le _ _;have h2:=List.length_take_le k Lb;omega
      by_cases hlt:k<Lb.length
      ·obtain⟨ad,hAd,q0,q1,q2,q3,q4⟩:=Bads.at_ hB.out.r hlt;obtain⟨x,hx⟩:∃x,Lb[k]=x:=⟨_,rfl⟩;simp only[hx]at q0 q1 q2 q3 q4;have HS:=Qh (Zbw (fun x=> !La.contains x) hlt hx);obtain⟨xx,xp,⟨xt,xk,xn⟩⟩:=x;simp only at q0 q1 q2 q3 q4;have i1:(0:Int)≤(k:Int):=Qn _;have i2:(k:Int)<(Lb.length:Int):=by omega
       clear hx;obtain⟨wx,hwx⟩:∃wx,wr.alloc (.cells #[.int .i64 xx,.int .i64 xp,.int .i64 xt,.int .i64 xk,.int .i64 xn] 38)=wx:=⟨_,rfl⟩;have ux:Upd No wr wx:=by rw[←hwx];exact(Upd.refl No wr).alloc _
       have bX:Blk wx wr.heap.size 38 [.int .i64 xx,.int .i64 xp,.int .i64 xt,.int .i64 xk,.int .i64 xn]:=by rw[←hwx];exact Blk.new wr _ _
       have f0:∀W,Upd No wx W→W.cell? ⟨wr.heap.size,0,none⟩=some (.int .i64 xx):=fun W u=>(bX.upd u id).cell 0
       have f1:∀W,Upd No wx W→W.cell? ⟨wr.heap.size,1,none⟩=some (.int .i64 xp):=fun W u=>(bX.upd u id).cell 1
       have f2:∀W,Upd No wx W→W.cell? ⟨wr.heap.size,2,none⟩=some (.int .i64 xt):=fun W u=>(bX.upd u id).cell 2
       have f3:∀W,Upd No wx W→W.cell? ⟨wr.heap.size,3,none⟩=some (.int .i64 xk):=fun W u=>(bX.upd u id).cell 3
       have f4:∀W,Upd No wx W→W.cell? ⟨wr.heap.size,4,none⟩=some (.int .i64 xn):=fun W u=>(bX.upd u id).cell 4
       have hxz:Upd No wx wx:=Upd.refl _ _;obtain⟨v,hv⟩:∃v,La.contains (⟨xx,xp,⟨xt,xk,xn⟩⟩:HBad)=v:=⟨_,rfl⟩;have HV:=Qh hv;have CC:=Qh (ZmL (c:=c7) (Bads.upd hB.out.l ux (fun _ _=>id)) (by omega) hv);have HT:=Qh (hT.out.upd ux (fun _ _=>id));have HBX:=Qh (hB.out.upd ux);have HUX:=Qh (hu.trans ux);subst hAd;clear ux bX hT hB hv hu
       cases v with
       |false=>
        go_wp2_with fail
        refine(CC.out).mono ?_;rintro e w4 ⟨rfl,hu4⟩;have HT4:=Qh (HT.out.upd hu4 (fun _ _=>id));have HB4:=Qh (HBX.out.upd hu4);have HO4:=Qh (HT4.out.r);have hz4:=(HUX.out.trans hu4).size;have HU4:=Qh (HUX.out.trans hu4)
        go_wp2_with (at_builtin;refine Z4 rfl rfl Zcy (v:= .slice A10 rt.length c10) (n:=rt.length) (xs:=bdF rt) (cells:=[.int .i64 xx,.int .i64 xp,.int .i64 xt,.int .i64 xk,.int .i64 xn]) (by rfl) rfl HO4.out rfl rfl (by omega) (by omega) (by omega) ?_;intro g6 c6 w6 hown6 hu6 hg6 hlt6)
        go_roundg (gk-1)
        case measure=>omega
        case rel=>
         have hl1:(rt++[(⟨xx,xp,⟨xt,xk,xn⟩⟩:HBad)]).length=rt.length+1:=by simp
         exact⟨k+1,some ⟨g6,0,none⟩,c6,rt++[⟨xx,xp,⟨xt,xk,xn⟩⟩],by omega,by go_num,by rw[hl1],Qh (by rw[HS.out,HV.out,hs.out,List.append_assoc];rfl),Qh (by rw[hl1,Zfh];exact HT4.out.right hown6 hu6 hg6),Qh (by rw[hl1];exact HB4.out.right hu6 hg6),HU4.out.then_ hu6 (fun i e=>Or.inr (HO4.out.lt i e).1)⟩
       |true=>
        go_wp2_with fail
        refine(CC.out).mono ?_;rintro e w4 ⟨rfl,hu4⟩;go_wp2
        go_roundg (gk-1)
        case measure=>omega
        case rel=>exact⟨k+1,A10,c10,rt,by omega,by go_num,rfl,Qh (by rw[HS.out,HV.out,hs.out];simp),Qh (HT.out.upd hu4 (fun _ _=>id)),Qh (HBX.out.upd hu4),HUX.out.trans hu4⟩
      ·obtain rfl:k=Lb.length:=by omega
       have HY:=Qh (show rt=Zac ⟨tb,ob,A',c',B',d'⟩ ⟨ta,oa,A,c,B,d⟩ p (ks.take (j+1)) by rw[HGY.out,hs.out,List.take_length]);clear hs;go_wp2
       go_roundg (m0-1)
       case measure=>omega
       case rel=>exact⟨j+1,A9,c9,A10,c10,rs,rt,by omega,by go_num,rfl,rfl,HX,HY,hT,hu⟩
  ·obtain rfl:j=ks.length:=by omega
   have HX:=Qh (show Za5 xs=l by rw[hxs.out,List.take_length];exact HWE.out);have HY:=Qh (show Za5 ys=m by rw[hys.out,List.take_length];exact HCA.out);have HLX:=Qh (show xs.length=l.length by rw[←HX.out,ZdW]);have HLY:=Qh (show ys.length=m.length by rw[←HY.out,ZdW]);have CS:=Qh (ZmK wr w3.heap.size A5 c5 xs hT.out.l (by omega) rfl);have HU:=Qh (UB.out.trans (hu3.trans hu));have HTT:=Qh hT.out;have hzw:=UB.out.size;clear hT hu
   go_wp2_with fail
   refine(CS.out).mono ?_;rintro e w4 ⟨rfl,ho4,hu4⟩;have HR4:=Qh (Zb HTT.out.r hu4 (fun i f2 f1=>HTT.out.ap i f1 f2));have CS2:=Qh (ZmK w4 w3.heap.size A6 c6 ys HR4.out (by omega) rfl);have HO4:=Qh ho4;have HU4:=Qh (HU.out.then_ hu4 (fun i e=> .inr (by have:=(HTT.out.l.lt i e).1;omega)));clear ho4 hu4
   go_wp2_with fail
   refine(CS2.out).mono ?_;rintro e w5 ⟨rfl,ho5,hu5⟩;have HL5:=Qh (Zb HO4.out hu5 (fun i f1 f2=>HTT.out.ap i f1 f2));have HO5:=Qh ho5;have HU5:=Qh (HU4.out.then_ hu5 (fun i e=> .inr (by have:=(HTT.out.r.lt i e).1;omega)));clear ho5 hu5;go_wp2;refine bodyPost_ret (v:= .tuple #[.slice A5 xs.length c5,.slice A6 ys.length c6,.int .i64 0]) (by simp[results,Tryz.results26,go_sem]) rfl ?_;rw[HLX.out,HLY.out];have q1:=Recs.of_own Zbn (by omega) HL5.out;have q2:=Recs.of_own Zbn (by omega) HO5.out;rw[HX.out]at q1;rw[HY.out]at q2;exact⟨A5,c5,A6,c6,rfl,Recs.weak q1 (fun _ _ _=>trivial),Recs.weak q2 (fun _ _ _=>trivial),HU5.out⟩
end
end
/- How edges and bad reads change:the document's way (tenterref19.Less,tenterref18.Same). -/
section
open Go.RowKit
set_option maxRecDepth 100000 in
set_option maxHeartbeats 1000000 in
theorem ZiU (w:World) (F G:Nat→Prop) (A B:Option Addr) (c d:Nat) (xs ys:List HBad) (hx:Recs F w A 5 (xs.map HBad.cells)) (hy:Recs G w B 5 (ys.map HBad.cells)) (hl:xs.length≤4398046511103) (hl2:ys.length≤4398046511103) {v:Bool} (hv:(xs==ys)=v):
  Calls Tryz.prog 31 #[.slice A xs.length c,.slice B ys.length d] w fun e w'=>e= .returned (.bool v)∧Upd No w w':=by
 have qG:∀(op:BinOp) (x y:Operand) (xs ys:Array Value) (w:World),(eqGuard op 38 x y (.agg xs) (.agg ys)).run Tryz.prog w= .ok () w:=fun op x y xs ys w=>run_eqGuard_agg w op _ x y xs ys (by kernel_rfl)
 subst hv
 by_cases hn:xs.length=ys.length
 ·have hnb:((xs.length:Int) != (ys.length:Int))=false:=by rw[bne_eq_false_iff_eq];omega
  have HN:=Qh hn;clear hn
  go_enter Tryz.func31,Tryz.ntmps31
  go_wp2
  go_loopg [5,13] xs.length (fun gk j i wr=>∃k:Nat,k+gk=xs.length∧i= .int .i64 k∧Hid (xs.take k=ys.take k)∧Upd No w wr)
  case atStart=>exact⟨0,by omega,rfl,Qh rfl,Upd.refl _ _⟩
  case round=>
   obtain⟨k,hgk,rfl,hs,hu⟩:=hrel
   by_cases hlt:k<xs.length
   ·have hlt2:k<ys.length:=by have:=HN.out;omega
    obtain⟨ax,rfl,q0,q1,q2,q3,q4⟩:=Bads.at_ (Recs.upd hx hu (fun _ _=>id)) hlt;obtain⟨ay,rfl,r0,r1,r2,r3,r4⟩:=Bads.at_ (Recs.upd hy hu (fun _ _=>id)) hlt2;obtain⟨x,hxx⟩:∃x,xs[k]=x:=⟨_,rfl⟩;obtain⟨y,hyy⟩:∃y,ys[k]=y:=⟨_,rfl⟩;simp only[hxx]at q0 q1 q2 q3 q4;simp only[hyy]at r0 r1 r2 r3 r4;have hq:=fun W=>Znx W x y
    have i1:(0:Int)≤(k:Int):=Qn _;have i2:(k:Int)<(xs.length:Int):=by omega
    have i3:(k:Int)<(ys.length:Int):=by omega
    have HX:=Qh hxx;have HY:=Qh hyy;clear hxx hyy
    by_cases he:x=y
    ·have HN2:=Qh (show xs.take (k+1)=ys.take (k+1) by rw[List.take_succ_eq_append_getElem hlt,List.take_succ_eq_append_getElem hlt2,hs.out,HX.out,HY.out,he]);have heb:(x != y)=false:=by simpa using he
     rw[heb]at hq;clear he heb;go_wp2
     go_quiet (fail)
     go_wp2
     go_roundg (gk-1)
     case measure=>omega
     case rel=>exact⟨k+1,by omega,by go_num,HN2,hu.drewN _⟩
    ·have HF:=Qh (show(xs==ys)=false from by
      rw[beq_eq_false_iff_ne];intro e;subst e;exact he (HX.out.symm.trans HY.out))
     have heb:(x != y)=true:=by simpa using he
     rw[heb]at hq;clear he heb;go_wp2
     go_quiet (fail)
     go_wp2
     go_ret
     exact⟨by rw[HF.out];rfl,hu.drewN _⟩
   ·obtain rfl:k=xs.length:=by omega
    have HT:=Qh (show(xs==ys)=true from by
     rw[beq_iff_eq];have:=hs.out
     rwa [List.take_length,HN.out,List.take_length]at this)
    go_wp2
    go_ret
    exact⟨by rw[HT.out];rfl,hu⟩
 ·have HF:=Qh (show(xs==ys)=false from by
   rw[beq_eq_false_iff_ne];intro e;exact hn (by rw[e]))
  have hnb:((xs.length:Int) != (ys.length:Int))=true:=by rw[bne_iff_ne];omega
  clear hn
  go_enter Tryz.func31,Tryz.ntmps31
  go_wp2
  go_ret
  exact⟨by rw[HF.out];rfl,Upd.refl _ _⟩
set_option maxRecDepth 100000 in
set_option maxHeartbeats 2000000 in
theorem ZiW {F G:Nat→Prop} {w:World} {A B:Option Addr} {c d:Nat} {la lb:List HBad} (HA:Bads F w A la) (HB:Bads G w B lb) (hla:la.length≤1000000) (hlb:lb.length≤1000000):
  Calls Tryz.prog 32 #[.slice A la.length c,.slice B lb.length d] w (Zbb w (la.filter fun x=> !lb.contains x)):=by
 have HAH:=Qh HA;have HBH:=Qh HB;clear HA HB
 go_enter Tryz.func32,Tryz.ntmps32
 go_wp2
 go_loopg [5,10] la.length (fun gk s i wr=>∃(k:Nat) (A5:Option Addr) (c5:Nat) (rs:List HBad),k+gk=la.length∧i= .int .i64 (k:Int)∧s= .slice A5 rs.length c5∧Hid (rs=(la.take k).filter fun x=> !lb.contains x)∧Hid (wr.ownsRow w.heap.size 38 5 (.slice A5 rs.length c5) rs.length (bdF rs))∧Upd No w wr)
 case atStart=>exact⟨0,none,0,[],by omega,rfl,rfl,Qh rfl,Qh (World.ownsRow_nil _ _ _ _),Upd.refl _ _⟩
 case round=>
  obtain⟨k,A5,c5,rs,hgk,rfl,rfl,hs,hown,hu⟩:=hrel
  have hrl:rs.length≤1000000:=by
   rw[hs.out];have h1:((la.take k).filter fun x=> !lb.contains x).length≤(la.take k).length:=List.length_filter_le _ _;have h2:=List.length_take_le k la;omega
  by_cases hlt:k<la.length
  ·obtain⟨ad,hAd,q0,q1,q2,q3,q4⟩:=Bads.at_ (Bads.upd HAH.out hu (fun _ _=>id)) hlt;obtain⟨x,hx⟩:∃x,la[k]=x:=⟨_,rfl⟩;simp only[hx]at q0 q1 q2 q3 q4;have HS:=Qh (Zbw (fun x=> !lb.contains x) hlt hx);obtain⟨xx,xp,⟨xt,xk,xn⟩⟩:=x;simp only at q0 q1 q2 q3 q4;have i1:(0:Int)≤(k:Int):=Qn _;have i2:(k:Int)<(la.length:Int):=by omega
   clear hx;obtain⟨wx,hwx⟩:∃wx,wr.alloc (.cells #[.int .i64 xx,.int .i64 xp,.int .i64 xt,.int .i64 xk,.int .i64 xn] 38)=wx:=⟨_,rfl⟩;have ux:Upd No wr wx:=by rw[←hwx];exact(Upd.refl No wr).alloc _
   have bX:Blk wx wr.heap.size 38 [.int .i64 xx,.int .i64 xp,.int .i64 xt,.int .i64 xk,.int .i64 xn]:=by rw[←hwx];exact Blk.new wr _ _
   have f0:∀W,Upd No wx W→W.cell? ⟨wr.heap.size,0,none⟩=some (.int .i64 xx):=fun W u=>(bX.upd u id).cell 0
   have f1:∀W,Upd No wx W→W.cell? ⟨wr.heap.size,1,none⟩=some (.int .i64 xp):=fun W u=>(bX.upd u id).cell 1
   have f2:∀W,Upd No wx W→W.cell? ⟨wr.heap.size,2,none⟩=some (.int .i64 xt):=fun W u=>(bX.upd u id).cell 2
   have f3:∀W,Upd No wx W→W.cell? ⟨wr.heap.size,3,none⟩=some (.int .i64 xk):=fun W u=>(bX.upd u id).cell 3
   have f4:∀W,Upd No wx W→W.cell? ⟨wr.heap.size,4,none⟩=some (.int .i64 xn):=fun W u=>(bX.upd u id).cell 4
   have hxz:Upd No wx wx:=Upd.refl _ _;obtain⟨v,hv⟩:∃v,lb.contains (⟨xx,xp,⟨xt,xk,xn⟩⟩:HBad)=v:=⟨_,rfl⟩;have HV:=Qh hv;have hc:=ZoF _ wx B d lb ⟨xx,xp,⟨xt,xk,xn⟩⟩ (Bads.upd HBH.out (hu.trans ux) (fun _ _=>id)) (by omega);rw[hv]at hc;have CC:=Qh hc;have HO:=Qh (Zb hown.out ux (fun _ _=>id));have HUX:=Qh (hu.trans ux);subst hAd;clear ux bX hown hv hu hc
   cases v with
   |false=>
    go_wp2_with fail
    refine(CC.out).mono ?_;rintro e w4 ⟨rfl,hu4⟩;have HO4:=Qh (Zb HO.out hu4 (fun _ _=>id));have hz4:=(HUX.out.trans hu4).size;have HU4:=Qh (HUX.out.trans hu4)
    go_wp2_with (at_builtin;refine Z4 rfl rfl Zcy (v:= .slice A5 rs.length c5) (n:=rs.length) (xs:=bdF rs) (cells:=[.int .i64 xx,.int .i64 xp,.int .i64 xt,.int .i64 xk,.int .i64 xn]) (by rfl) rfl HO4.out rfl rfl (by omega) (by omega) (by omega) ?_;intro g6 c6 w6 hown6 hu6 hg6 hlt6)
    go_roundg (gk-1)
    case measure=>omega
    case rel=>
     have hl1:(rs++[(⟨xx,xp,⟨xt,xk,xn⟩⟩:HBad)]).length=rs.length+1:=by simp
     exact⟨k+1,some ⟨g6,0,none⟩,c6,rs++[⟨xx,xp,⟨xt,xk,xn⟩⟩],by omega,by go_num,by rw[hl1],Qh (by rw[HS.out,HV.out,hs.out];rfl),Qh (by rw[hl1,Zfh];exact hown6),HU4.out.then_ hu6 (fun i e=>Or.inr (HO4.out.lt i e).1)⟩
   |true=>
    go_wp2_with fail
    refine(CC.out).mono ?_;rintro e w4 ⟨rfl,hu4⟩;go_wp2
    go_roundg (gk-1)
    case measure=>omega
    case rel=>exact⟨k+1,A5,c5,rs,by omega,by go_num,rfl,Qh (by rw[HS.out,HV.out,hs.out];simp),Qh (Zb HO.out hu4 (fun _ _=>id)),HUX.out.trans hu4⟩
  ·obtain rfl:k=la.length:=by omega
   have HX:=Qh (show(la.filter fun x=> !lb.contains x)=rs by rw[hs.out,List.take_length]);clear hs;go_wp2
   go_ret
   rw[HX.out];exact⟨A5,c5,rfl,hown.out,hu⟩
end
/- How edges change:the document's way (tenterref19.Edges). -/
section
open Go.RowKit
set_option maxRecDepth 100000 in
set_option maxHeartbeats 4000000 in
theorem ZlJ {F G:Nat→Prop} {w:World} {A B:Option Addr} {c d:Nat} {la lb:List Hvy} (HA:Hvys F w A la) (HB:Hvys G w B lb) (hla:la.length≤10000) (hlb:lb.length≤10000) (na:∀x∈la,-1000≤x.n∧x.n≤1000) (nb:∀x∈lb,-1000≤x.n∧x.n≤1000)
  {l:List Hvy} (hl:Zs la lb=l):
  Calls Tryz.prog 29 #[.slice A la.length c,.slice B lb.length d] w (Zhy w l):=by
 have HAH:=Qh (Recs.weak (G:=fun i=>i<w.heap.size) HA (fun i h _=>h));have HBH:=Qh (Recs.weak (G:=fun i=>i<w.heap.size) HB (fun i h _=>h));have NA:=Qh na;have NB:=Qh nb;have HL:=Qh hl;clear HA HB na nb hl
 go_enter Tryz.func29,Tryz.ntmps29
 go_wp2
 go_loopg [5,6,7] (la.length+lb.length) (fun gk s ti tj wr=>∃(i j:Nat) (A5:Option Addr) (c5:Nat) (xs:List Hvy),i≤la.length∧j≤lb.length∧i+j+gk=la.length+lb.length∧ti= .int .i64 (i:Int)∧tj= .int .i64 (j:Int)∧s= .slice A5 xs.length c5∧
  Hid (xs++Zs (la.drop i) (lb.drop j)=l)∧xs.length≤i+j∧Hid (wr.ownsRow w.heap.size 55 5 (.slice A5 xs.length c5) xs.length (ZaI xs))∧Upd No w wr)
 case atStart=>exact⟨0,0,none,0,[],by omega,by omega,by omega,rfl,rfl,rfl,Qh (by simpa using HL.out),by simp,Qh (World.ownsRow_nil _ _ _ _),Upd.refl _ _⟩
 case round=>
  obtain⟨i,j,A5,c5,xs,hi,hj,hgk,rfl,rfl,rfl,hs,hxl,hown,hu⟩:=hrel;have HO:=Qh hown.out;have HU:=Qh hu;have hno:∀k,k<w.heap.size→¬Own (.slice A5 xs.length c5) k:=fun k h e=>by have:=(HO.out.lt k e).1;omega
  have HLA:=Qh (fun W (u:Upd (Own (.slice A5 xs.length c5)) wr W)=>(Recs.upd (Recs.upd HAH.out hu (fun _ _=>id)) u hno:Hvys (fun i=>i<w.heap.size) W A la));have HLB:=Qh (fun W (u:Upd (Own (.slice A5 xs.length c5)) wr W)=>(Recs.upd (Recs.upd HBH.out hu (fun _ _=>id)) u hno:Hvys (fun i=>i<w.heap.size) W B lb));have hxz:Upd (Own (.slice A5 xs.length c5)) wr wr:=Upd.refl _ _;have hzr:=hu.size;have HSZ:=Qh hu.size;have i1:(0:Int)≤(i:Int):=Qn _;have j1:(0:Int)≤(j:Int):=Qn _;have iw:IntKind.i64.wrap ((i:Int)+1)=(i:Int)+1:=IntWalk.i64_in _ (by omega);have jw:IntKind.i64.wrap ((j:Int)+1)=(j:Int)+1:=IntWalk.i64_in _ (by omega);clear hown hu hno
  by_cases hlt:i<la.length
  ·obtain⟨ad,hAd,_⟩:=Hvys.at_ (HLA.out _ hxz) hlt;subst hAd;obtain⟨x,hx⟩:∃x,la[i]=x:=⟨_,rfl⟩;have DX:=Qh (show la.drop i=x::la.drop (i+1) by rw[←hx];exact List.drop_eq_getElem_cons hlt);obtain⟨bx1,bx2⟩:=NA.out x (by rw[←hx];exact List.getElem_mem hlt);have RX:=Qh (fun W (u:Upd (Own (.slice A5 xs.length c5)) wr W)=>(by obtain⟨ad2,h2,q⟩:=Hvys.at_ (HLA.out _ u) hlt;cases h2;rw[hx]at q;exact q:W.cell? (ad.add (i*5))=some (.int .i64 x.e.f)∧W.cell? ⟨(ad.add (i*5)).block,(ad.add (i*5)).off+1,none⟩=some (.int .i64 x.e.t)∧W.cell? ⟨(ad.add (i*5)).block,(ad.add (i*5)).off+2,none⟩=some (.int .i64 x.e.k)∧W.cell? ⟨(ad.add (i*5)).block,(ad.add (i*5)).off+3,none⟩=some (.int .i64 x.e.key)∧W.cell? ⟨(ad.add (i*5)).block,(ad.add (i*5)).off+4,none⟩=some (.int .i64 x.n)));have p0:=fun W u=>(RX.out W u).1
   have p1:=fun W u=>(RX.out W u).2.1
   have p2:=fun W u=>(RX.out W u).2.2.1
   have p3:=fun W u=>(RX.out W u).2.2.2.1
   have p4:=fun W u=>(RX.out W u).2.2.2.2
   have i2:(i:Int)<(la.length:Int):=by omega
   have i3:decide ((la.length:Int)≤(i:Int))=false:=decide_eq_false (by omega);have i4:decide (la.length≤i)=false:=decide_eq_false (by omega);have nw:IntKind.i64.wrap (-x.n)= -x.n:=IntWalk.i64_in _ (by omega);clear hx
   by_cases hlt2:j<lb.length
   ·obtain⟨bd,hBd,_⟩:=Hvys.at_ (HLB.out _ hxz) hlt2;subst hBd;obtain⟨y,hy⟩:∃y,lb[j]=y:=⟨_,rfl⟩;have DY:=Qh (show lb.drop j=y::lb.drop (j+1) by rw[←hy];exact List.drop_eq_getElem_cons hlt2);obtain⟨by1,by2⟩:=NB.out y (by rw[←hy];exact List.getElem_mem hlt2);have RY:=Qh (fun W (u:Upd (Own (.slice A5 xs.length c5)) wr W)=>(by obtain⟨ad2,h2,q⟩:=Hvys.at_ (HLB.out _ u) hlt2;cases h2;rw[hy]at q;exact q:W.cell? (bd.add (j*5))=some (.int .i64 y.e.f)∧W.cell? ⟨(bd.add (j*5)).block,(bd.add (j*5)).off+1,none⟩=some (.int .i64 y.e.t)∧W.cell? ⟨(bd.add (j*5)).block,(bd.add (j*5)).off+2,none⟩=some (.int .i64 y.e.k)∧W.cell? ⟨(bd.add (j*5)).block,(bd.add (j*5)).off+3,none⟩=some (.int .i64 y.e.key)∧W.cell? ⟨(bd.add (j*5)).block,(bd.add (j*5)).off+4,none⟩=some (.int .i64 y.n)));have t0:=fun W u=>(RY.out W u).1
    have t1:=fun W u=>(RY.out W u).2.1
    have t2:=fun W u=>(RY.out W u).2.2.1
    have t3:=fun W u=>(RY.out W u).2.2.2.1
    have t4:=fun W u=>(RY.out W u).2.2.2.2
    have j2:(j:Int)<(lb.length:Int):=by omega
    have j3:decide ((lb.length:Int)≤(j:Int))=false:=decide_eq_false (by omega);have j4:decide (lb.length≤j)=false:=decide_eq_false (by omega);clear hy;obtain⟨v1,hv1⟩:∃v1,ltE x.e y.e=v1:=⟨_,rfl⟩;obtain⟨v2,hv2⟩:∃v2,ltE y.e x.e=v2:=⟨_,rfl⟩;have CL1:=Qh (fun W=>(by have h:=Zmv W x.e y.e;rw[hv1]at h;exact h:Calls Tryz.prog 98 #[.agg #[.int .i64 x.e.f,.int .i64 x.e.t,.int .i64 x.e.k,.int .i64 x.e.key],.agg #[.int .i64 y.e.f,.int .i64 y.e.t,.int .i64 y.e.k,.int .i64 y.e.key]] W fun e w'=>e= .returned (.bool v1)∧Upd No W w'));have CL2:=Qh (fun W=>(by have h:=Zmv W y.e x.e;rw[hv2]at h;exact h:Calls Tryz.prog 98 #[.agg #[.int .i64 y.e.f,.int .i64 y.e.t,.int .i64 y.e.k,.int .i64 y.e.key],.agg #[.int .i64 x.e.f,.int .i64 x.e.t,.int .i64 x.e.k,.int .i64 x.e.key]] W fun e w'=>e= .returned (.bool v2)∧Upd No W w'))
    have HST:=Qh (show xs++(if v1 then ⟨x.e,-x.n⟩::Zs (la.drop (i+1)) (y::lb.drop (j+1)) else if v2 then y::Zs (x::la.drop (i+1)) (lb.drop (j+1)) else (if x.n=y.n then Zs (la.drop (i+1)) (lb.drop (j+1)) else ⟨x.e,y.n-x.n⟩::Zs (la.drop (i+1)) (lb.drop (j+1))))=l by
     have:=hs.out;rw[DX.out,DY.out,Zdz,hv1,hv2]at this;exact this)
    have sw:IntKind.i64.wrap (y.n-x.n)=y.n-x.n:=IntWalk.i64_in _ (by omega);clear hv1 hv2 hs;go_wp2;refine wp_region_noPanic ?_;refine wp_region_held_drew (S:=(fun W'=>Upd (Own (.slice A5 xs.length c5)) wr W')) (by kernel_rfl) ?_ (fun hHeld=> ?_)
    ·(first|with_reducible exact hxz.drew|with_reducible exact hHeld.noR hu4)
    refine wpK 0 rfl ?_;refine wpK 1 rfl ?_;refine wpK 2 rfl ?_;refine wpK 3 rfl ?_;refine wpK 4 rfl ?_;refine wpK 5 rfl ?_;refine wpK 6 rfl ?_;refine wpK 7 rfl ?_;refine wpK 8 rfl ?_;refine wpK 9 rfl ?_;refine wpK 10 rfl ?_;refine wpK 11 rfl ?_;refine wpK 12 rfl ?_;refine wpK 13 rfl ?_;refine wpK 14 rfl ?_;refine wpK 15 rfl ?_;refine wpK 16 rfl ?_;refine wpK 17 rfl ?_;refine wpK 18 rfl ?_;refine wpK 19 rfl ?_;refine wpR [20] ?_;refine wpC rfl (fun K hK=> ?_) AllReadyH.nil;go_simp
    (first
  |(go_at_call 98;refine(CL1.out _).mono ?_;rintro e w4 ⟨rfl,hu4⟩))
    try (go_wp2_with fail)
    refine hK.out _ _ ?_ (fun hHeld=> ?_)
    ·(first|with_reducible exact hxz.drew|with_reducible exact hHeld.noR hu4)
    clear hK K
    try simp only[Act.put,sT,sS,sZ]
    refine wpK 21 rfl ?_;refine wpK 22 rfl ?_;refine wpD (NoPanic.normal ?_);have hv4:=hHeld;have HO4:=Qh (Zb HO.out hu4.of_drew (fun _ _=>id));have HS4:=Qh (Nat.le_trans HSZ.out hu4.of_drew.size);clear hHeld hu4
    cases v1 with
    |true=>
     have HS5:=Qh (show xs++([⟨x.e,-x.n⟩]++Zs (la.drop (i+1)) (lb.drop j))=l by have:=HST.out;rw[if_pos rfl]at this;rw[DY.out];exact this);have hv:=hv4;have HOW:=HO4;have HSW:=HS4;go_wp2;have hzd:Upd No w4 (w4.alloc (.cells #[.int .i64 x.e.f,.int .i64 x.e.t,.int .i64 x.e.k,.int .i64 x.e.key,.int .i64 (-x.n)] 55)).drew:=((Upd.refl No w4).alloc _).drew;refine wp_region_noPanic ?_;refine wp_region_held_drew (S:=(fun W'=>Upd (Own (.slice A5 xs.length c5)) wr W')) (by kernel_rfl) ?_ (fun hHeld=> ?_)
     ·(first|exact hv.drew|exact hHeld|exact hHeld.alloc _|exact hU6)
     refine wpK 0 rfl ?_;refine wpK 1 rfl ?_;refine wpK 2 rfl ?_;refine wpK 3 rfl ?_;refine wpK 4 rfl ?_;refine wpK 5 rfl ?_;refine wpK 6 rfl ?_;refine wpK 7 rfl ?_;refine wpK 8 rfl ?_;refine wpK 9 rfl ?_;refine wpK 10 rfl ?_;refine wpK 11 rfl ?_;refine wpK 12 rfl ?_;refine wpR [13] ?_;refine wpC rfl (fun K hK=> ?_) AllReadyH.nil;go_simp;refine hK.out _ _ ?_ (fun hHeld=> ?_)
     ·(first|exact hv.drew|exact hHeld|exact hHeld.alloc _|exact hU6)
     clear hK K
     try simp only[Act.put,sT,sS,sZ]
     refine wpR [14] ?_;refine wpC rfl (fun K hK=> ?_) AllReadyH.nil
     (first
  |(refine Zaz (by rfl) (by rfl) ZbJ (v:= .slice A5 xs.length c5) (n:=xs.length) (xs:=ZaI xs) (cells:=[.int .i64 x.e.f,.int .i64 x.e.t,.int .i64 x.e.k,.int .i64 x.e.key,.int .i64 (-x.n)]) (by rfl) (by rfl) (by exact Zb HOW.out hzd (fun _ _=>id)) rfl (by exact ZaH) (by rfl) (by omega) (by omega) (by have:=HSW.out;simp;omega) ?_;intro g6 c6 w6 hown6 hu6 hg6 hlt6;have hU6:Upd (Own (.slice A5 xs.length c5)) wr w6:=hHeld.trans hu6))
     refine hK.out _ _ ?_ (fun hHeld=> ?_)
     ·(first|exact hv.drew|exact hHeld|exact hHeld.alloc _|exact hU6)
     clear hK K
     try simp only[Act.put,sT,sS,sZ]
     refine wpK 15 rfl ?_;refine wpD (NoPanic.normal ?_);have HU6:=Qh hHeld;clear hHeld hzd;go_wp2
     go_roundg (gk-1)
     case measure=>omega
     case rel=>
      have hl1:(xs++[(⟨x.e,-x.n⟩:Hvy)]).length=xs.length+1:=by simp
      exact⟨i+1,j,some ⟨g6,0,none⟩,c6,xs++[⟨x.e,-x.n⟩],by omega,by omega,by omega,by go_num,by go_num,by rw[hl1],Qh (by rw[List.append_assoc];exact HS5.out),by rw[hl1];omega,Qh (by rw[hl1,Za3];exact hown6),HU.out.then_ HU6.out (fun k e=>Or.inr (HO.out.lt k e).1)⟩
    |false=>
     go_wp2;refine wp_region_noPanic ?_;refine wp_region_held_drew (S:=(fun W'=>Upd (Own (.slice A5 xs.length c5)) wr W')) (by kernel_rfl) ?_ (fun hHeld=> ?_)
     ·(first|with_reducible exact hv4.drew|with_reducible exact hHeld.noR hu5)
     refine wpK 0 rfl ?_;refine wpK 1 rfl ?_;refine wpK 2 rfl ?_;refine wpK 3 rfl ?_;refine wpK 4 rfl ?_;refine wpK 5 rfl ?_;refine wpK 6 rfl ?_;refine wpK 7 rfl ?_;refine wpK 8 rfl ?_;refine wpK 9 rfl ?_;refine wpK 10 rfl ?_;refine wpK 11 rfl ?_;refine wpK 12 rfl ?_;refine wpK 13 rfl ?_;refine wpK 14 rfl ?_;refine wpR [15] ?_;refine wpC rfl (fun K hK=> ?_) AllReadyH.nil;go_simp
     (first
  |(go_at_call 98;refine(CL2.out _).mono ?_;rintro e w5 ⟨rfl,hu5⟩))
     try (go_wp2_with fail)
     refine hK.out _ _ ?_ (fun hHeld=> ?_)
     ·(first|with_reducible exact hv4.drew|with_reducible exact hHeld.noR hu5)
     clear hK K
     try simp only[Act.put,sT,sS,sZ]
     refine wpK 16 rfl ?_;refine wpD (NoPanic.normal ?_);have hv5:=hHeld;have HO5:=Qh (Zb HO4.out hu5.of_drew (fun _ _=>id));have HS5z:=Qh (Nat.le_trans HS4.out hu5.of_drew.size);clear hHeld hu5 hv4
     cases v2 with
     |true=>
      have HS5:=Qh (show xs++([y]++Zs (la.drop i) (lb.drop (j+1)))=l by have:=HST.out;rw[if_neg (by decide),if_pos rfl]at this;rw[DX.out];exact this);have hvv:=hv5;have hss:=HS5z.out
      go_wp2_with (at_builtin;refine Z4 rfl rfl ZbJ (v:= .slice A5 xs.length c5) (n:=xs.length) (xs:=ZaI xs) (cells:=[.int .i64 y.e.f,.int .i64 y.e.t,.int .i64 y.e.k,.int .i64 y.e.key,.int .i64 y.n]) (by rfl) rfl HO5.out rfl rfl (by omega) (by omega) (by omega) ?_;intro g6 c6 w6 hown6 hu6 hg6 hlt6)
      go_roundg (gk-1)
      case measure=>omega
      case rel=>
       have hl1:(xs++[y]).length=xs.length+1:=by simp
       exact⟨_,j+1,some ⟨g6,0,none⟩,c6,xs++[y],hi,by omega,by omega,by go_num,by go_num,by rw[hl1],Qh (by rw[List.append_assoc];exact HS5.out),by rw[hl1];omega,Qh (by rw[hl1,Za3];exact hown6),HU.out.then_ (hvv.trans hu6) (fun k e=>Or.inr (HO.out.lt k e).1)⟩
     |false=>
      by_cases hn:x.n=y.n
      ·have hnb:(x.n != y.n)=false:=by simpa using hn
       have HS5:=Qh (show xs++Zs (la.drop (i+1)) (lb.drop (j+1))=l by have:=HST.out;rw[if_neg (by decide),if_neg (by decide),if_pos hn]at this;exact this);clear hn;go_wp2
       go_quiet (fail)
       have hv:Upd (Own (.slice A5 xs.length c5)) wr (w5.drewN nq):=hv5.drewN nq;have HOW:=Qh (Zb HO5.out ((Upd.refl No w5).drewN nq) (fun _ _=>id));have HSW:=Qh (show w.heap.size≤(w5.drewN nq).heap.size from HS5z.out)
       generalize hgen:w5.drewN nq=w7 at*
       clear hgen;go_wp2
       go_roundg (gk-2)
       case measure=>omega
       case rel=>exact⟨i+1,j+1,A5,c5,xs,by omega,by omega,by omega,by go_num,by go_num,rfl,HS5,by omega,HOW,HU.out.then_ hv (fun k e=>Or.inr (HO.out.lt k e).1)⟩
      ·have hnb:(x.n != y.n)=true:=by simpa using hn
       have HS5:=Qh (show xs++([⟨x.e,y.n-x.n⟩]++Zs (la.drop (i+1)) (lb.drop (j+1)))=l by have:=HST.out;rw[if_neg (by decide),if_neg (by decide),if_neg hn]at this;exact this);clear hn;go_wp2
       go_quiet (fail)
       have hv:Upd (Own (.slice A5 xs.length c5)) wr (w5.drewN nq):=hv5.drewN nq;have HOW:=Qh (Zb HO5.out ((Upd.refl No w5).drewN nq) (fun _ _=>id));have HSW:=Qh (show w.heap.size≤(w5.drewN nq).heap.size from HS5z.out)
       generalize hgen:w5.drewN nq=w7 at*
       clear hgen;go_wp2;have hzd:Upd No w7 (w7.alloc (.cells #[.int .i64 x.e.f,.int .i64 x.e.t,.int .i64 x.e.k,.int .i64 x.e.key,.int .i64 (y.n-x.n)] 55)).drew:=((Upd.refl No w7).alloc _).drew;refine wp_region_noPanic ?_;refine wp_region_held_drew (S:=(fun W'=>Upd (Own (.slice A5 xs.length c5)) wr W')) (by kernel_rfl) ?_ (fun hHeld=> ?_)
       ·(first|exact hv.drew|exact hHeld|exact hHeld.alloc _|exact hU6)
       refine wpK 0 rfl ?_;refine wpK 1 rfl ?_;refine wpK 2 rfl ?_;refine wpK 3 rfl ?_;refine wpK 4 rfl ?_;refine wpK 5 rfl ?_;refine wpK 6 rfl ?_;refine wpK 7 rfl ?_;refine wpK 8 rfl ?_;refine wpK 9 rfl ?_;refine wpK 10 rfl ?_;refine wpK 11 rfl ?_;refine wpK 12 rfl ?_;refine wpK 13 rfl ?_;refine wpK 14 rfl ?_;refine wpK 15 rfl ?_;refine wpK 16 rfl ?_;refine wpK 17 rfl ?_;refine wpR [18] ?_;refine wpC rfl (fun K hK=> ?_) AllReadyH.nil;go_simp;refine hK.out _ _ ?_ (fun hHeld=> ?_)
       ·(first|exact hv.drew|exact hHeld|exact hHeld.alloc _|exact hU6)
       clear hK K
       try simp only[Act.put,sT,sS,sZ]
       refine wpR [19] ?_;refine wpC rfl (fun K hK=> ?_) AllReadyH.nil
       (first
  |(refine Zaz (by rfl) (by rfl) ZbJ (v:= .slice A5 xs.length c5) (n:=xs.length) (xs:=ZaI xs) (cells:=[.int .i64 x.e.f,.int .i64 x.e.t,.int .i64 x.e.k,.int .i64 x.e.key,.int .i64 (y.n-x.n)]) (by rfl) (by rfl) (by exact Zb HOW.out hzd (fun _ _=>id)) rfl (by exact ZaH) (by rfl) (by omega) (by omega) (by have:=HSW.out;simp;omega) ?_;intro g6 c6 w6 hown6 hu6 hg6 hlt6;have hU6:Upd (Own (.slice A5 xs.length c5)) wr w6:=hHeld.trans hu6))
       refine hK.out _ _ ?_ (fun hHeld=> ?_)
       ·(first|exact hv.drew|exact hHeld|exact hHeld.alloc _|exact hU6)
       clear hK K
       try simp only[Act.put,sT,sS,sZ]
       refine wpK 20 rfl ?_;refine wpD (NoPanic.normal ?_);have HU6:=Qh hHeld;clear hHeld hzd;go_wp2
       go_roundg (gk-2)
       case measure=>omega
       case rel=>
        have hl1:(xs++[(⟨x.e,y.n-x.n⟩:Hvy)]).length=xs.length+1:=by simp
        exact⟨i+1,j+1,some ⟨g6,0,none⟩,c6,xs++[⟨x.e,y.n-x.n⟩],by omega,by omega,by omega,by go_num,by go_num,by rw[hl1],Qh (by rw[List.append_assoc];exact HS5.out),by rw[hl1];omega,Qh (by rw[hl1,Za3];exact hown6),HU.out.then_ HU6.out (fun k e=>Or.inr (HO.out.lt k e).1)⟩
   ·obtain rfl:j=lb.length:=by omega
    have HS5:=Qh (show xs++([⟨x.e,-x.n⟩]++Zs (la.drop (i+1)) (lb.drop lb.length))=l by have:=hs.out;rw[DX.out,List.drop_length,Zbr]at this;rw[List.drop_length];exact this);clear hs;go_wp2
    go_quiet (fail)
    have hv:Upd (Own (.slice A5 xs.length c5)) wr (wr.drewN nq):=hxz.drewN nq;have HOW:=Qh (Zb HO.out ((Upd.refl No wr).drewN nq) (fun _ _=>id));have HSW:=Qh (show w.heap.size≤(wr.drewN nq).heap.size from HSZ.out)
    generalize hgen:wr.drewN nq=w4 at*
    clear hgen;go_wp2;have hzd:Upd No w4 (w4.alloc (.cells #[.int .i64 x.e.f,.int .i64 x.e.t,.int .i64 x.e.k,.int .i64 x.e.key,.int .i64 (-x.n)] 55)).drew:=((Upd.refl No w4).alloc _).drew;refine wp_region_noPanic ?_;refine wp_region_held_drew (S:=(fun W'=>Upd (Own (.slice A5 xs.length c5)) wr W')) (by kernel_rfl) ?_ (fun hHeld=> ?_)
    ·(first|exact hv.drew|exact hHeld|exact hHeld.alloc _|exact hU6)
    refine wpK 0 rfl ?_;refine wpK 1 rfl ?_;refine wpK 2 rfl ?_;refine wpK 3 rfl ?_;refine wpK 4 rfl ?_;refine wpK 5 rfl ?_;refine wpK 6 rfl ?_;refine wpK 7 rfl ?_;refine wpK 8 rfl ?_;refine wpK 9 rfl ?_;refine wpK 10 rfl ?_;refine wpK 11 rfl ?_;refine wpK 12 rfl ?_;refine wpR [13] ?_;refine wpC rfl (fun K hK=> ?_) AllReadyH.nil;go_simp;refine hK.out _ _ ?_ (fun hHeld=> ?_)
    ·(first|exact hv.drew|exact hHeld|exact hHeld.alloc _|exact hU6)
    clear hK K
    try simp only[Act.put,sT,sS,sZ]
    refine wpR [14] ?_;refine wpC rfl (fun K hK=> ?_) AllReadyH.nil
    (first
  |(refine Zaz (by rfl) (by rfl) ZbJ (v:= .slice A5 xs.length c5) (n:=xs.length) (xs:=ZaI xs) (cells:=[.int .i64 x.e.f,.int .i64 x.e.t,.int .i64 x.e.k,.int .i64 x.e.key,.int .i64 (-x.n)]) (by rfl) (by rfl) (by exact Zb HOW.out hzd (fun _ _=>id)) rfl (by exact ZaH) (by rfl) (by omega) (by omega) (by have:=HSW.out;simp;omega) ?_;intro g6 c6 w6 hown6 hu6 hg6 hlt6;have hU6:Upd (Own (.slice A5 xs.length c5)) wr w6:=hHeld.trans hu6))
    refine hK.out _ _ ?_ (fun hHeld=> ?_)
    ·(first|exact hv.drew|exact hHeld|exact hHeld.alloc _|exact hU6)
    clear hK K
    try simp only[Act.put,sT,sS,sZ]
    refine wpK 15 rfl ?_;refine wpD (NoPanic.normal ?_);have HU6:=Qh hHeld;clear hHeld hzd;go_wp2
    go_roundg (gk-1)
    case measure=>omega
    case rel=>
     have hl1:(xs++[(⟨x.e,-x.n⟩:Hvy)]).length=xs.length+1:=by simp
     exact⟨i+1,lb.length,some ⟨g6,0,none⟩,c6,xs++[⟨x.e,-x.n⟩],by omega,by omega,by omega,by go_num,by go_num,by rw[hl1],Qh (by rw[List.append_assoc];exact HS5.out),by rw[hl1];omega,Qh (by rw[hl1,Za3];exact hown6),HU.out.then_ HU6.out (fun k e=>Or.inr (HO.out.lt k e).1)⟩
  ·obtain rfl:i=la.length:=by omega
   by_cases hlt2:j<lb.length
   ·obtain⟨bd,hBd,_⟩:=Hvys.at_ (HLB.out _ hxz) hlt2;subst hBd;obtain⟨y,hy⟩:∃y,lb[j]=y:=⟨_,rfl⟩;have DY:=Qh (show lb.drop j=y::lb.drop (j+1) by rw[←hy];exact List.drop_eq_getElem_cons hlt2);obtain⟨by1,by2⟩:=NB.out y (by rw[←hy];exact List.getElem_mem hlt2);have RY:=Qh (fun W (u:Upd (Own (.slice A5 xs.length c5)) wr W)=>(by obtain⟨ad2,h2,q⟩:=Hvys.at_ (HLB.out _ u) hlt2;cases h2;rw[hy]at q;exact q:W.cell? (bd.add (j*5))=some (.int .i64 y.e.f)∧W.cell? ⟨(bd.add (j*5)).block,(bd.add (j*5)).off+1,none⟩=some (.int .i64 y.e.t)∧W.cell? ⟨(bd.add (j*5)).block,(bd.add (j*5)).off+2,none⟩=some (.int .i64 y.e.k)∧W.cell? ⟨(bd.add (j*5)).block,(bd.add (j*5)).off+3,none⟩=some (.int .i64 y.e.key)∧W.cell? ⟨(bd.add (j*5)).block,(bd.add (j*5)).off+4,none⟩=some (.int .i64 y.n)));have t0:=fun W u=>(RY.out W u).1
    have t1:=fun W u=>(RY.out W u).2.1
    have t2:=fun W u=>(RY.out W u).2.2.1
    have t3:=fun W u=>(RY.out W u).2.2.2.1
    have t4:=fun W u=>(RY.out W u).2.2.2.2
    have j2:(j:Int)<(lb.length:Int):=by omega
    have j3:decide ((lb.length:Int)≤(j:Int))=false:=decide_eq_false (by omega);have j4:decide (lb.length≤j)=false:=decide_eq_false (by omega);clear hy;have HS5:=Qh (show xs++([y]++Zs (la.drop la.length) (lb.drop (j+1)))=l by have:=hs.out;rw[DY.out,List.drop_length,Za6]at this;rw[List.drop_length,Za6];exact this);clear hs;go_wp2
    go_quiet (fail)
    have hv:Upd (Own (.slice A5 xs.length c5)) wr (wr.drewN nq):=hxz.drewN nq;have HOW:=Qh (Zb HO.out ((Upd.refl No wr).drewN nq) (fun _ _=>id));have HSW:=Qh (show w.heap.size≤(wr.drewN nq).heap.size from HSZ.out)
    generalize hgen:wr.drewN nq=w4 at*
    clear hgen;go_wp2;have hv4:=hv;have HO4:=HOW;have HS4:=HSW;clear hv HOW HSW
    go_quiet (fail)
    have hv:Upd (Own (.slice A5 xs.length c5)) wr (w4.drewN nq):=hv4.drewN nq;have HOW:=Qh (Zb HO4.out ((Upd.refl No w4).drewN nq) (fun _ _=>id));have HSW:=Qh (show w.heap.size≤(w4.drewN nq).heap.size from HS4.out)
    generalize hgen:w4.drewN nq=w5 at*
    clear hgen;clear hv4 HO4 HS4;have hvv:=hv;have hss:=HSW.out
    go_wp2_with (at_builtin;refine Z4 rfl rfl ZbJ (v:= .slice A5 xs.length c5) (n:=xs.length) (xs:=ZaI xs) (cells:=[.int .i64 y.e.f,.int .i64 y.e.t,.int .i64 y.e.k,.int .i64 y.e.key,.int .i64 y.n]) (by rfl) rfl HOW.out rfl rfl (by omega) (by omega) (by omega) ?_;intro g6 c6 w6 hown6 hu6 hg6 hlt6)
    go_roundg (gk-1)
    case measure=>omega
    case rel=>
     have hl1:(xs++[y]).length=xs.length+1:=by simp
     exact⟨_,j+1,some ⟨g6,0,none⟩,c6,xs++[y],hi,by omega,by omega,by go_num,by go_num,by rw[hl1],Qh (by rw[List.append_assoc];exact HS5.out),by rw[hl1];omega,Qh (by rw[hl1,Za3];exact hown6),HU.out.then_ (hvv.trans hu6) (fun k e=>Or.inr (HO.out.lt k e).1)⟩
   ·obtain rfl:j=lb.length:=by omega
    have HX:=Qh (show xs=l by have:=hs.out;rw[List.drop_length,List.drop_length,Za6,List.append_nil]at this;exact this);go_wp2
    go_ret
    rw[←HX.out];exact⟨A5,c5,rfl,HO.out,HU.out⟩
end
end Go.Proofs.YtblplapkdmhikaaGreat
