/- An index: made, its ids, users, and what lacks. -/
import Derived.Test.YtblplapkdmhikaaDxas
import Derived.Test.YtblplapkdmhikaaDxbj
import Derived.Test.YtblplapkdmhikaaDxbl
import Derived.Test.YtblplapkdmhikaaDxbr
namespace Go.Proofs.Ytblplapkdmhikaa
set_option linter.unusedVariables false
set_option linter.unusedSimpArgs false
section
open Go.RowKit Go.Maps Go.Sort Go.Shelf
theorem Ze5 {p:Int→Bool} {l:List Int} {k:Nat} {x:Int} (hk:k<l.length) (hx:l[k]=x) (hp:p x=true):(l.take (k+1)).filter p=(l.take k).filter p++[x]:=by
 rw[List.take_succ_eq_append_getElem hk,List.filter_append,hx,List.filter_cons_of_pos hp];rfl
theorem ZfD {p:Int→Bool} {l:List Int} {k:Nat} {x:Int} (hk:k<l.length) (hx:l[k]=x) (hp:p x=false):(l.take (k+1)).filter p=(l.take k).filter p:=by
 rw[List.take_succ_eq_append_getElem hk,List.filter_append,hx,List.filter_cons_of_neg (by rw[hp];decide)];simp
def Zbf (z:Nat):Nat→Nat:=fun i=>if i=z+5 then 1 else if z≤i∧i≤z+4 then i-z+2 else 0
set_option maxRecDepth 100000 in
set_option maxHeartbeats 1000000 in
theorem ZgV (w:World):Calls Try.prog 22 #[] w fun e w'=>∃g,e= .returned (.pointer (some ⟨g,0,none⟩))∧w'.heap.size=w.heap.size+6∧g=w.heap.size+5∧(∃bT bW bR bU bS,IXm w' (Zbf w.heap.size) g bT bW bR bU bS 0 (fun _=>none) (fun _=>[]) (fun _=>[]) (fun _=>0) (fun _=>0))∧Upd No w w':=by
 have hmm:= @run_makeMap Try.prog;obtain⟨z,hz⟩:∃z,w.heap.size=z:=⟨_,rfl⟩;obtain⟨w1,hw1⟩:∃w1,w.alloc (.map #[] 0)=w1:=⟨_,rfl⟩;obtain⟨w2,hw2⟩:∃w2,w1.alloc (.map #[] 0)=w2:=⟨_,rfl⟩;obtain⟨w3,hw3⟩:∃w3,w2.alloc (.map #[] 0)=w3:=⟨_,rfl⟩;obtain⟨w4,hw4⟩:∃w4,w3.alloc (.map #[] 0)=w4:=⟨_,rfl⟩;obtain⟨w5,hw5⟩:∃w5,w4.alloc (.map #[] 0)=w5:=⟨_,rfl⟩;obtain⟨w6,hw6⟩:∃w6,w5.alloc (.cells #[.map (some z),.map (some (z+1)),.map (some (z+2)),.map (some (z+3)),.map (some (z+4)),.int .i64 0] 99)=w6:=⟨_,rfl⟩;have s1:w1.heap.size=z+1:=by rw[←hw1,←hz];simp
 have s2:w2.heap.size=z+2:=by rw[←hw2];simp[s1]
 have s3:w3.heap.size=z+3:=by rw[←hw3];simp[s2]
 have s4:w4.heap.size=z+4:=by rw[←hw4];simp[s3]
 have s5:w5.heap.size=z+5:=by rw[←hw5];simp[s4]
 have s6:w6.heap.size=z+6:=by rw[←hw6];simp[s5]
 have u1:Upd No w w1:=by rw[←hw1];exact(Upd.refl No w).alloc _
 have u2:Upd No w1 w2:=by rw[←hw2];exact(Upd.refl No w1).alloc _
 have u3:Upd No w2 w3:=by rw[←hw3];exact(Upd.refl No w2).alloc _
 have u4:Upd No w3 w4:=by rw[←hw4];exact(Upd.refl No w3).alloc _
 have u5:Upd No w4 w5:=by rw[←hw5];exact(Upd.refl No w4).alloc _
 have u6:Upd No w5 w6:=by rw[←hw6];exact(Upd.refl No w5).alloc _
 have m1:MapE w1 z (fun n:Int=>Value.int .i64 n) []:=by rw[←hw1,←hz];exact MapE.new w _
 have m2:MapE w2 (z+1) (fun n:Int=>Value.int .i64 n) []:=by rw[←hw2,←s1];exact MapE.new w1 _
 have m3:MapE w3 (z+2) ZL []:=by rw[←hw3,←s2];exact MapE.new w2 _
 have m4:MapE w4 (z+3) ZQ []:=by rw[←hw4,←s3];exact MapE.new w3 _
 have m5:MapE w5 (z+4) ZQ []:=by rw[←hw5,←s4];exact MapE.new w4 _
 have b6:Blk w6 (z+5) 99 [.map (some z),.map (some (z+1)),.map (some (z+2)),.map (some (z+3)),.map (some (z+4)),.int .i64 0]:=by rw[←hw6,←s5];exact Blk.new w5 _ _
 have hI:IXm w6 (Zbf z) (z+5) z (z+1) (z+2) (z+3) (z+4) 0 (fun _=>none) (fun _=>[]) (fun _=>[]) (fun _=>0) (fun _=>0):=by
  refine⟨by simp[Zbf],by simp[Zbf],by simp[Zbf],by simp[Zbf],by simp[Zbf],by simp[Zbf],fun i hi=> ?_,b6,
   ⟨[],m1.upd (u2.trans (u3.trans (u4.trans (u5.trans u6)))) id,by simp,fun id=>by rw[Zag];rfl⟩,
   ⟨[],MSl.new (m2.upd (u3.trans (u4.trans (u5.trans u6))) id) _⟩,⟨[],MSl.new (m3.upd (u4.trans (u5.trans u6)) id) _,fun v=>by simp⟩,
   ⟨[],m4.upd (u5.trans u6) id,CntM.new⟩,⟨[],m5.upd u6 id,CntM.new⟩⟩
  unfold Zbf at hi
  split at hi
  ·omega
  ·split at hi
   ·omega
   ·exact absurd rfl hi
 have HI:=Qh hI;have HU:=Qh (u1.trans (u2.trans (u3.trans (u4.trans (u5.trans u6)))));have HS:=Qh s6;clear u1 u2 u3 u4 u5 u6 m1 m2 m3 m4 m5 b6 hI s6;rw[hz]
 go_enter Try.func22,Try.ntmps22
 go_wp2
 go_ret
 exact⟨z+5,rfl,HS.out,rfl,⟨z,z+1,z+2,z+3,z+4,HI.out⟩,HU.out⟩
set_option maxRecDepth 100000 in
set_option maxHeartbeats 2000000 in
theorem Zg5 (F:Fence) (n:Nat) (hF:F.fn 91) (hro:F.round=none) (hn:1≤n) (l Bm b:Nat) (m:List (Int×Value)) (J:List Int→World→Prop)
  (hY:∀pre x W,J pre W→pre.length<m.length→YieldAt F (n-1) Try.prog l #[.int .i64 x] W fun e W'=>e= .returned (.bool true)∧J (pre++[x]) W'∧KeepsWalks W W')
  (W:World) (hJ:AbidesFrom W.heap.size J) (hm:W.cell? ⟨Bm,0,none⟩=some (.map (some b))) (hmap:MapE W b (fun n:Int=>Value.int .i64 n) m) (h0:J [] W):
  CallsIn F n Try.prog 91 #[.func (.yield l) #[] #[],.pointer (some ⟨Bm,0,none⟩)] W fun e W'=>(∃v,e= .returned v)∧∃ks:List Int,ks.Perm (m.map (·.1))∧J ks W':=by
 obtain⟨w0,hrg,hit0,hu0,hs0⟩:=Zco (P:=Try.prog) Try.underlying93 hmap;have hJ0:J [] w0:=hJ [] W w0 none h0 (ZfB hu0) (fun r e=>by cases e);clear hs0;refine callsIn_of_wp Try.func91 rfl hF ?_ hro;simp only[Try.ntmps91,List.size_toArray,List.length_cons,List.length_nil,Nat.reduceAdd,Nat.reduceSub,Array.replicate_succ,Array.replicate_zero,List.push_toArray,List.append_toArray,List.nil_append,List.cons_append]
 gi_wp2
 gi_loopw [3] (fun _ wr=>∃(left:List (Int×Value)) (ks:List Int),Iter wr W.heap.size b (fun n:Int=>Value.int .i64 n) m left∧(ks++left.map (·.1)).Perm (m.map (·.1))∧J ks wr)
  (fun _ wr=>wr.rangeLeft b W.heap.size)
 case atStart=>exact⟨m,[],hit0,by simp,hJ0⟩
 case round=>
  clear hrg hJ0 hit0 hu0;obtain⟨left,ks,hit,hpm,hJs⟩:=hrel;rcases ZcV (P:=Try.prog) hit with ⟨rfl,hnx⟩|⟨l1,p,l2,w2,rfl,hnx,hit2,hu2,hs2,hent⟩
  ·gi_wp2
   go_end0
   exact⟨⟨_,rfl⟩,ks,by simpa using hpm,hJs⟩
  ·obtain⟨x,v⟩:=p;have hent2:=hent w2 (Upd.refl _ _);have hJ2:J ks w2:=hJ ks _ w2 (some W.heap.size) hJs (Ze2 hu2) (fun r e=>by cases e;exact⟨Nat.le_refl _,hit.walk⟩);have hlen:ks.length<m.length:=by have:=hpm.length_eq;simp at this;omega
   obtain⟨fn,tmps,assign,body,hy,hR⟩:=hY ks x w2 hJ2 hlen
   dsimp only at hy hnx hent2
   have HIT:=Qh hit;have HIT3:=Qh hit2;have HPM:=Qh hpm;clear hit hit2 hpm hs2 hu2 hent hlen
   gi_wp2
   refine hR.mono ?_;rintro e W3 ⟨rfl,hJ4,hk4⟩;have hit4:=HIT3.out.walks hk4
   gi_wp2
   go_roundw
   case rel=>
    refine⟨l1++l2,ks++[x],hit4,?_,hJ4⟩;refine List.Perm.trans ?_ HPM.out;simp only[List.map_append,List.map_cons,List.append_assoc,List.singleton_append];exact List.Perm.append_left ks List.perm_middle.symm
   case measure=>rw[hit4.left_eq,HIT.out.left_eq];simp
theorem ZeT:∀args w,(callFunc 91 args).run Try.prog w= .ok (.enter 91 args) w:=enters_of Try.func91 (by kernel_rfl) rfl
theorem Zgd (w:World) (Bm b:Nat) (m:List (Int×Value)) (hm:w.cell? ⟨Bm,0,none⟩=some (.map (some b))) (hmap:MapE w b (fun n:Int=>Value.int .i64 n) m):ZdL w 91 Bm m:=by
 have hBm:Bm<w.heap.size:=block_lt_of_cell (a:=⟨Bm,0,none⟩) hm;exact fun l J W hW hJ hY h0=>Zg5 Fence.wide (5-1-1) trivial rfl (by omega) l Bm b m J hY W hJ ((hW.cell (p:=⟨Bm,0,none⟩) hBm).trans hm) (hmap.upd (S:=No) (Upd.of_below hW) id) h0
set_option maxHeartbeats 1000000 in
theorem Zgc (w:World) (mb:Option Nat):Calls Try.prog 63 #[.map mb] w fun e w'=>e= .returned (.func (.func 91) #[] #[.pointer (some ⟨w.heap.size,0,none⟩)])∧w.alloc (.cells #[.map mb] 93)=w':=by
 go_enter Try.func63,Try.ntmps63
 go_wp2
 go_ret
 exact⟨rfl,rfl⟩
section
variable {w:World} {col:Nat→Nat} {g bT bW bR bU bS:Nat} {wt:Int} {eT:Int→Option HTx} {fW:Int→List Int} {fR:Ver→List Int} {nU nS:Int×Int→Nat}
set_option maxRecDepth 100000 in
set_option maxHeartbeats 1000000 in
theorem ZfM (h:IXm w col g bT bW bR bU bS wt eT fW fR nU nS) (ids:List Int) (hs:ids.Pairwise (·<·)) (hm:∀x,x∈ids↔eT x≠none) (hl:ids.length≤1000000):Calls Try.prog 24 #[.pointer (some ⟨g,0,none⟩)] w (Z4 w ids):=by
 obtain⟨mT,t1,t2,t3⟩:=h.tx
 have hk:∀x,x∈mT.map (·.1)↔x∈ids:=fun x=>by
  rw[hm];have h1:=Za6 mT x;have h2:=t3 x
  cases he:eT x with
  |none=>
   rw[he]at h2;unfold TxAt at h2;simp only[ne_eq,not_true_eq_false,iff_false];exact h1.1 h2
  |some t=>
   rw[he]at h2;obtain⟨A,c,h3,_⟩:=h2;simp only[ne_eq,reduceCtorEq,not_false_eq_true,iff_true];exact Classical.byContradiction fun hh=>by rw[h1.2 hh]at h3;cases h3
 have hp:(mT.map (·.1)).Perm ids:=(List.perm_ext_iff_of_nodup t2 (hs.imp fun h=>Int.ne_of_lt h)).2 hk
 have hso:ZI (mT.map (·.1))=ids:=by
  rw[ZaT];exact Za3 ((ZR _).trans hp) (Zar _) (hs.imp Int.le_of_lt)
 have hml:mT.length≤1000000:=by have:=hp.length_eq;rw[List.length_map]at this;omega
 obtain⟨zk,hzk⟩:∃zk,w.heap.size=zk:=⟨_,rfl⟩;obtain⟨wk,hwk⟩:∃wk,w.alloc (.cells #[.map (some bT)] 93)=wk:=⟨_,rfl⟩;have uk:Upd No w wk:=by rw[←hwk];exact(Upd.refl No w).alloc _
 have bk:Blk wk zk 93 [.map (some bT)]:=by rw[←hwk,←hzk];exact Blk.new w _ _
 have CS:=Qh (ZgA wk 91 zk mT ZeT (Zgd wk zk bT mT (by have:=bk.cell 0;simpa using this) (t1.upd uk id)) hml);have CK:=Qh (Zgc w (some bT));rw[hwk,hzk]at CK;have e0:=h.c0 (S:=No) (fun _ e=>e.elim) w (Upd.refl _ _);have HSO:=Qh hso;have HUK:=Qh uk;clear h t1 t2 t3 hk hp hso uk bk hs hm
 go_enter Try.func24,Try.ntmps24
 go_wp2_with fail
 refine(CK.out).mono ?_;rintro e w4 ⟨rfl,rfl⟩
 go_wp2_with fail
 refine(CS.out).mono ?_;rintro e w5 ⟨A5,c5,ks,rfl,hks,ho5,hu5⟩;have HKS:=Qh (hks.trans HSO.out);clear hks;go_wp2
 go_ret
 have hks:=HKS.out;subst hks;exact⟨A5,c5,rfl,Z8 ho5 HUK.out.size,HUK.out.trans hu5⟩
set_option maxRecDepth 100000 in
set_option maxHeartbeats 2000000 in
theorem Zge (h:IXm w col g bT bW bR bU bS wt eT fW fR nU nS) (ids:List Int) (hs:ids.Pairwise (·<·)) (hm:∀x,x∈ids↔eT x≠none) (hl:ids.length≤1000000) (i0:Int):
  Calls Try.prog 29 #[.pointer (some ⟨g,0,none⟩),.int .i64 i0] w (Z4 w (ids.filter fun b=>decide (0<nU (b,i0)))):=by
 have CI:=Qh (ZfM h ids hs hm hl);have HH:=Qh h;clear h hs hm
 go_enter Try.func29,Try.ntmps29
 go_wp2_with fail
 refine(CI.out).mono ?_;rintro e w1 ⟨A1,c1,rfl,ho1,hu1⟩;have HI1:=Qh (Ints.of_own ho1);have H1:=Qh (HH.out.no hu1);have HU1:=Qh hu1;clear ho1 hu1;go_wp2
 go_loopg [5,11] ids.length (fun gk s i wr=>∃(k:Nat) (A5:Option Addr) (c5:Nat) (xs:List Int),k+gk=ids.length∧i= .int .i64 (k:Int)∧s= .slice A5 xs.length c5∧Hid (xs=(ids.take k).filter fun b=>decide (0<nU (b,i0)))∧xs.length≤k∧
  Hid (wr.ownsRow w1.heap.size 3 1 (.slice A5 xs.length c5) xs.length (xs.map (Value.int .i64)))∧Hid (Upd No w1 wr))
 case atStart=>exact⟨0,none,0,[],by omega,rfl,rfl,Qh (by simp),by simp,Qh (World.ownsRow_nil _ _ _ _),Qh (Upd.refl _ _)⟩
 case round=>
  obtain⟨k,A5,c5,xs,hgk,rfl,rfl,hxs,hxl,hown,hu⟩:=hrel
  by_cases hlt:k<ids.length
  ·obtain⟨ad,rfl,_,_,q0⟩:=(HI1.out.upd hu.out (fun _ _=>id)).at_ hlt;obtain⟨x,hx⟩:∃x,ids[k]=x:=⟨_,rfl⟩;rw[hx]at q0;have X:=Qh hx;have b1:(0:Int)≤(k:Int):=Qn _;have b2:(k:Int)<(ids.length:Int):=by omega
   have hr:=H1.out.no hu.out;obtain⟨mU,hmU,hcU,_⟩:=hr.ulook;have e3:=hr.c3 (S:=No) (fun _ e=>e.elim) wr (Upd.refl _ _);have hlk:=Zw Zbl Try.underlying96 ZbF hmU.is (x,i0);rw[hcU.val]at hlk;unfold ZQ at hlk;obtain⟨nv,hnv⟩:∃n,nU (x,i0)=n:=⟨_,rfl⟩;rw[hnv]at hlk;have HNV:=Qh hnv;have HOW:=Qh hown.out;have HUU:=Qh hu.out;clear hx hr hmU hcU hnv hown hu
   by_cases hp:0<nv
   ·have hd:decide ((0:Int)<(nv:Int))=true:=decide_eq_true (by omega);have hd2:decide (0<nv)=true:=decide_eq_true hp;have HS:=Qh (Ze5 (p:=fun b=>decide (0<nU (b,i0))) hlt X.out (by simp only[HNV.out];exact hd2));clear hp
    go_wp2_with (at_builtin;refine Zc6 rfl rfl Zp (base:=w1.heap.size) (n:=xs.length) (xs:=xs.map (Value.int .i64)) (v:= .slice A5 xs.length c5) (cells:=[.int .i64 x]) (by rfl) (by rfl) HOW.out rfl rfl (by omega) (by omega) (by have:=HUU.out.size;omega) ?_;intro g9 c9 w9 hown9 hu9 hg9 hlt9;have HOW9:=Qh hown9;have HU9:=Qh hu9;clear hown9 hu9)
    go_roundg (gk-1)
    case measure=>omega
    case rel=>exact⟨k+1,some ⟨g9,0,none⟩,c9,xs++[x],by omega,by go_num,by simp,Qh (by rw[HS.out,hxs.out]),by simp;omega,Qh (by have:=HOW9.out;simpa using this),Qh (HUU.out.then_ HU9.out fun i e=> .inr (HOW.out.lt i e).1)⟩
   ·have hd:decide ((0:Int)<(nv:Int))=false:=decide_eq_false (by omega);have hd2:decide (0<nv)=false:=decide_eq_false hp;have HS:=Qh (ZfD (p:=fun b=>decide (0<nU (b,i0))) hlt X.out (by simp only[HNV.out];exact hd2));clear hp;go_wp2
    go_roundg (gk-1)
    case measure=>omega
    case rel=>exact⟨k+1,A5,c5,xs,by omega,by go_num,rfl,Qh (by rw[HS.out,hxs.out]),by omega,HOW,HUU⟩
  ·obtain rfl:k=ids.length:=by omega
   have HX:=Qh (show(ids.filter fun b=>decide (0<nU (b,i0)))=xs by rw[hxs.out,List.take_length]);clear hxs;go_wp2
   go_ret
   rw[HX.out];exact⟨A5,c5,rfl,Z8 hown.out HU1.out.size,HU1.out.trans hu.out⟩
def ZgK (fR:Ver→List Int) (nS:Int×Int→Nat) (l:List Ver):Prop:=(l.Pairwise fun a b=>Zs a b=true)∧∀v,v∈l↔fR v≠[]∧(nS (v.tx,v.key):Int)<v.nth
theorem ZfC {α:Type} (p:α→Bool) (xs l1 l2:List α) (x:α):(if p x=true then (xs++[x])++(l1++l2).filter p else xs++(l1++l2).filter p).Perm (xs++(l1++x::l2).filter p):=by
 rw[List.filter_append,List.filter_append,List.filter_cons]
 split
 ·rw[List.append_assoc];refine List.Perm.append_left xs ?_
  show(x::(l1.filter p++l2.filter p)).Perm _
  exact List.perm_middle.symm
 ·exact List.Perm.refl _
set_option maxRecDepth 100000 in
set_option maxHeartbeats 4000000 in
theorem Zgf (h:IXm w col g bT bW bR bU bS wt eT fW fR nU nS) (hK:∀ks:List Ver,ks.Nodup→(∀v∈ks,fR v≠[])→ks.length≤1000000):
  Calls Try.prog 34 #[.pointer (some ⟨g,0,none⟩)] w fun e w'=>∃l,ZgK fR nS l∧Zbo w l e w':=by
 obtain⟨mR,r1,r2⟩:=h.rd;have hml:mR.length≤1000000:=by have:=hK (mR.map (·.1)) r1.nd (fun v hv=>(r2 v).1 hv);rwa [List.length_map]at this
 obtain⟨LB,hLB⟩:∃LB:Ver→Bool,LB=fun v=>decide ((nS (v.tx,v.key):Int)<v.nth):=⟨_,rfl⟩
 have HND:=Qh r1.nd;have HKR:=Qh r2;have HLB:=Qh hLB;obtain⟨wi,hrun,hit,hui,hsi⟩:=Zco Try.underlying95 r1.is;have c2:=h.c2 (S:=No) (fun _ e=>e.elim) w (Upd.refl _ _);have HH:=Qh (h.no hui);obtain⟨z,hz⟩:∃z,w.heap.size=z:=⟨_,rfl⟩;rw[hz]at hit hsi hrun;have HIT:=Qh hit;have HUI:=Qh hui;have HSI:=Qh hsi;have HZ:=Qh hz
 have HCZ:=Qh (show col z=0 by
  rcases Classical.em (col z=0)with e|e
  ·exact e
  ·have:=h.lt z e;omega)
 have HBR:=Qh (show bR<z by rw[←hz];exact h.lt bR (by rw[h.cR];decide));clear h r1 r2 hit hui hsi hK hLB hz
 go_enter Try.func34,Try.ntmps34
 go_wp2
 go_loopg [3] mR.length (fun gk s wr=>∃(left:List (Ver×Value)) (xs:List Ver) (A5:Option Addr) (c5:Nat),left.length=gk∧s= .slice A5 xs.length c5∧Hid (Iter wr z bR ZL mR left)∧Hid ((xs++(left.map (·.1)).filter LB).Perm ((mR.map (·.1)).filter LB))∧
  Hid (wr.ownsRow (z+1) 28 3 (.slice A5 xs.length c5) xs.length (xs.map Ver.cells).flatten)∧Hid (Upd (One z) wi wr))
 case atStart=>exact⟨mR,[],none,0,rfl,rfl,HIT,Qh (by simp),Qh (World.ownsRow_nil _ _ _ _),Qh (Upd.refl _ _)⟩
 case round=>
  obtain⟨left,xs,A5,c5,hgk,rfl,hit,hpm,hown,hu⟩:=hrel;have hsz:=hu.out.size;rw[HSI.out]at hsz
  have hxl:xs.length≤1000000:=by
   have h1:=hpm.out.length_eq;have h2:=List.length_filter_le LB (mR.map (·.1));rw[List.length_map]at h2;rw[List.length_append]at h1;omega
  have hIw:=HH.out.upd hu.out (fun i hi e=>by have h9:=HCZ.out;rw[show i=z from e]at hi;exact hi h9);have HIW:=Qh hIw;have HOW:=Qh hown.out;rcases ZcV (P:=Try.prog) hit.out with ⟨rfl,hnx⟩|⟨l1,p,l2,w5,rfl,hnx,hit5,hu5,hs5,hent⟩
  ·have HP:=Qh (show xs.Perm ((mR.map (·.1)).filter LB) by have:=hpm.out;simpa using this);have CS:=Qh (ZgQ wr (z+1) A5 c5 xs HOW.out hxl rfl);have HUU:=Qh (HUI.out.then_ hu.out (fun i e=>Or.inr (by have:=HZ.out;rw[show i=z from e];omega)));clear hgk hit hpm hu hown
   go_wp2_with fail
   refine(CS.out).mono ?_;rintro e w6 ⟨rfl,ho6,hu6⟩;have HOB:=Qh (fun i e=>(HOW.out.lt i e).1);go_wp2
   go_ret
   have hsl:(Z5 xs).length=xs.length:=ZcH xs;refine⟨Z5 xs,⟨Zfj (HP.out.nodup_iff.2 (HND.out.filter _)),fun v=> ?_⟩,A5,c5,by rw[hsl];rfl,?_,HUU.out.then_ hu6 (fun i e=>Or.inr (by have:=HOB.out i e;have:=HZ.out;omega))⟩
   ·rw[ZeB,HP.out.mem_iff,List.mem_filter,HKR.out v,HLB.out,decide_eq_true_eq]
   ·rw[hsl];exact Z8 ho6 (by have:=HZ.out;omega)
  ·have hent5:=hent w5 (Upd.refl _ _);obtain⟨⟨vt,vk,vn⟩,vv⟩:=p;simp only at hnx hent5;unfold ZL at hent5;simp only at hent5;have HPM:=Qh ((ZfC LB xs (l1.map (·.1)) (l2.map (·.1)) ⟨vt,vk,vn⟩).trans (by have:=hpm.out;simpa using this));have hglen:(l1++l2).length=gk-1:=by simp at hgk ⊢;omega
   have hgpos:0<gk:=by simp at hgk;omega
   have HU5:=Qh (hu.out.trans hu5);have HO5:=Qh (Zj hown.out hu5 (fun i hi e=>by have:=(hown.out.lt i hi).1;rw[show i=z from e]at this;omega));have HI5:=Qh (HIW.out.upd hu5 (fun i hi e=>by have h9:=HCZ.out;rw[show i=z from e]at hi;exact hi h9));have HIT5:=Qh hit5;obtain⟨zx,hzx⟩:∃zx,w5.heap.size=zx:=⟨_,rfl⟩;obtain⟨wx,hwx⟩:∃wx,w5.alloc (.cells #[.int .i64 vt,.int .i64 vk,.int .i64 vn] 28)=wx:=⟨_,rfl⟩;have ux:Upd No w5 wx:=by rw[←hwx];exact(Upd.refl No w5).alloc _
   have bx:Blk wx zx 28 [.int .i64 vt,.int .i64 vk,.int .i64 vn]:=by rw[←hwx,←hzx];exact Blk.new w5 _ _
   have v0:∀W,Upd No wx W→W.cell? ⟨zx,0,none⟩=some (.int .i64 vt):=fun W u=>(bx.upd u id).cell 0
   have v1:∀W,Upd No wx W→W.cell? ⟨zx,1,none⟩=some (.int .i64 vk):=fun W u=>(bx.upd u id).cell 1
   have v2:∀W,Upd No wx W→W.cell? ⟨zx,2,none⟩=some (.int .i64 vn):=fun W u=>(bx.upd u id).cell 2
   obtain⟨ns,hns⟩:∃n,nS (vt,vk)=n:=⟨_,rfl⟩;have CW:=Qh (fun W (u:Upd No wx W)=>Zdy (HI5.out.no (ux.trans u)) vt vk);rw[hns]at CW;have HLV:=Qh (show LB ⟨vt,vk,vn⟩=decide ((ns:Int)<vn) by rw[HLB.out];simp only[hns]);have HUX:=Qh ux;have hzd:Upd No wx wx.drew:=(Upd.refl No wx).drew;clear hgk hit hpm hu hown hit5 hu5 hent hs5 ux bx hns hIw
   by_cases hlv:(ns:Int)<vn
   ·have hd:decide ((ns:Int)<vn)=true:=decide_eq_true hlv;clear hlv;go_wp2;refine wp_region_noPanic ?_;refine wp_region_held_drew (S:=(fun W'=>Upd No wx W')) (by kernel_rfl) ?_ (fun hHeld=> ?_)
    ·(first|exact hzd|exact hHeld)
    refine wpK 0 rfl ?_;refine wpK 1 rfl ?_;refine wpK 2 rfl ?_;refine wpK 3 rfl ?_;refine wpK 4 rfl ?_;refine wpK 5 rfl ?_;refine wpK 6 rfl ?_;refine wpR [7] ?_;refine wpC rfl (fun K hK=> ?_) AllReadyH.nil;go_simp
    (first
  |(go_at_call 30;refine(CW.out _ hzd).mono ?_;rintro e w9 ⟨rfl,rfl⟩))
    try (go_wp2_with fail)
    refine hK.out _ _ ?_ (fun hHeld=> ?_)
    ·(first|exact hzd|exact hHeld)
    clear hK K
    try simp only[Act.put,sT,sS,sZ]
    refine wpK 8 rfl ?_;refine wpD (NoPanic.normal ?_);have hdr:Upd No w5 wx.drew:=HUX.out.trans hzd;have HOX:=Qh (Zj HO5.out hdr (fun _ _=>id));have HITX:=Qh (HIT5.out.upd hdr id id);have HUY:=Qh (HU5.out.trans_ hdr (fun _ _ e=>e.elim));have HLT:=Qh (show LB ⟨vt,vk,vn⟩=true by rw[HLV.out];exact hd);have hsx:=HUY.out.size;rw[HSI.out]at hsx;obtain⟨wy,hwy⟩:∃W,wx.drew=W:=⟨_,rfl⟩;rw[hwy]at HOX HITX HUY hsx hzd hdr ⊢;have HRW:=Qh (show Upd No wx wy from hzd);clear hwy hHeld hzx hwx hrun;have y0:=v0 _ hzd;have y1:=v1 _ hzd;have y2:=v2 _ hzd;clear v0 v1 v2 hzd hdr
    go_wp2_with (at_builtin;refine Zc6 rfl rfl Zde (base:=z+1) (n:=xs.length) (xs:=(xs.map Ver.cells).flatten) (v:= .slice A5 xs.length c5) (cells:=[.int .i64 vt,.int .i64 vk,.int .i64 vn]) (by rfl) (by rfl) HOX.out rfl rfl (by omega) (by omega) (by omega) ?_;intro g9 c9 w9 hown9 hu9 hg9 hlt9;have HOW9:=Qh hown9;have HU9:=Qh hu9;clear hown9 hu9)
    go_roundg (gk-1)
    case measure=>omega
    case rel=>
     have hz9:∀i,Own (.slice A5 xs.length c5) i→z+1≤i:=fun i e=>(HOX.out.lt i e).1
     refine⟨l1++l2,xs++[⟨vt,vk,vn⟩],some ⟨g9,0,none⟩,c9,hglen,by simp,Qh (HITX.out.upd HU9.out (fun e=>by have:=hz9 _ e;omega) (fun e=>by have:=hz9 _ e;have:=HBR.out;omega)),Qh ?_,Qh (by have:=HOW9.out;simpa[Ver.cells]using this),Qh (HUY.out.then_ HU9.out (fun i e=>Or.inr (by have:=hz9 i e;have:=HSI.out;omega)))⟩;have:=HPM.out;rw[if_pos HLT.out]at this
     simpa using this
   ·have hd:decide ((ns:Int)<vn)=false:=decide_eq_false hlv;clear hlv;go_wp2;refine wp_region_noPanic ?_;refine wp_region_held_drew (S:=(fun W'=>Upd No wx W')) (by kernel_rfl) ?_ (fun hHeld=> ?_)
    ·(first|exact hzd|exact hHeld)
    refine wpK 0 rfl ?_;refine wpK 1 rfl ?_;refine wpK 2 rfl ?_;refine wpK 3 rfl ?_;refine wpK 4 rfl ?_;refine wpK 5 rfl ?_;refine wpK 6 rfl ?_;refine wpR [7] ?_;refine wpC rfl (fun K hK=> ?_) AllReadyH.nil;go_simp
    (first
  |(go_at_call 30;refine(CW.out _ hzd).mono ?_;rintro e w9 ⟨rfl,rfl⟩))
    try (go_wp2_with fail)
    refine hK.out _ _ ?_ (fun hHeld=> ?_)
    ·(first|exact hzd|exact hHeld)
    clear hK K
    try simp only[Act.put,sT,sS,sZ]
    refine wpK 8 rfl ?_;refine wpD (NoPanic.normal ?_);have hdr:Upd No w5 wx.drew:=HUX.out.trans hzd;have HOX:=Qh (Zj HO5.out hdr (fun _ _=>id));have HITX:=Qh (HIT5.out.upd hdr id id);have HUY:=Qh (HU5.out.trans_ hdr (fun _ _ e=>e.elim));have HLT:=Qh (show¬LB ⟨vt,vk,vn⟩=true by rw[HLV.out,hd];decide);clear hHeld hzx hwx hrun v0 v1 v2 hzd hdr;go_wp2
    go_roundg (gk-1)
    case measure=>omega
    case rel=>
     refine⟨l1++l2,xs,A5,c5,hglen,rfl,HITX,Qh ?_,HOX,HUY⟩;have:=HPM.out;rw[if_neg HLT.out]at this
     simpa using this
end
end
end Go.Proofs.Ytblplapkdmhikaa
