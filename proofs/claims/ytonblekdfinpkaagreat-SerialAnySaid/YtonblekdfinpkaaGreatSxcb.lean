/- Orders as if one by one: the answers that the document gives. -/
import Derived.Test.YtonblekdfinpkaaGreatSxak
import Derived.Test.YtonblekdfinpkaaGreatSxav
import Derived.Test.YtonblekdfinpkaaGreatSxbp
import Derived.Test.YtonblekdfinpkaaGreatSxby
import Derived.Test.YtonblekdfinpkaaGreatSxca
namespace Go.Proofs.YtonblekdfinpkaaGreat
set_option linter.unusedVariables false
set_option linter.unusedSimpArgs false
section
open Go.RowKit
def Zd1 (n:Nat):List HTx:=[⟨1,true,[⟨false,5,0,0⟩],some ⟨n,0,none⟩,1⟩,⟨2,true,[⟨true,5,0,0⟩],some ⟨n+1,0,none⟩,1⟩,⟨3,false,[],none,0⟩]
def ZlP (n:Nat):List HOrd:=[⟨5,[1],some ⟨n+3,0,none⟩,1⟩]
def h45 (n:Nat):Hist:=⟨Zd1 n,ZlP n,some ⟨n+2,0,none⟩,3,some ⟨n+4,0,none⟩,1⟩
def ZhJ (n:Nat):Hist:=⟨Zd1 n,[],some ⟨n+2,0,none⟩,3,none,0⟩
theorem ZoT {W:World} {n:Nat} {t1 t2 t3 t4:TypeId} (b1:Blk W n t1 [.bool false,.int .i64 5,.int .i64 0,.int .i64 0]) (b2:Blk W (n+1) t1 [.bool true,.int .i64 5,.int .i64 0,.int .i64 0])
  (b3:Blk W (n+2) t2 [.int .i64 1,.bool true,.slice (some ⟨n,0,none⟩) 1 1,.int .i64 2,.bool true,.slice (some ⟨n+1,0,none⟩) 1 1,.int .i64 3,.bool false,.slice none 0 0])
  (b4:Blk W (n+3) t3 [.int .i64 1]) (b5:Blk W (n+4) t4 [.int .i64 5,.slice (some ⟨n+3,0,none⟩) 1 1]):
  (h45 n).lies (fun _=>True) W:=by
 have h3:∀(l:List HTx),∀r∈l.map HTx.cells,r.length=3:=fun l r hr=>by
  obtain⟨e,_,rfl⟩:=List.mem_map.1 hr;rfl
 have h2:∀(l:List HOrd),∀r∈l.map HOrd.cells,r.length=2:=fun l r hr=>by
  obtain⟨e,_,rfl⟩:=List.mem_map.1 hr;rfl
 refine⟨(Zbf (h3 _) b3).weak fun _ _ _=>trivial,(Zbf (h2 _) b5).weak fun _ _ _=>trivial,?_,?_,by simp[h45,Zd1],by simp[h45,ZlP],by simp[h45,Zd1],by simp[h45,ZlP]⟩
 ·intro t ht;simp only[h45,Zd1,List.mem_cons,List.not_mem_nil,or_false]at ht;rcases ht with rfl|rfl|rfl
  ·refine⟨Recs.weak (Zbf ZcA b1) fun _ _ _=>trivial,by simp,by unfold Zp;simp,by unfold i64;simp,?_⟩;intro o ho;simp only[List.mem_cons,List.not_mem_nil,or_false]at ho;subst ho;unfold HOp.ok i64;decide
  ·refine⟨Recs.weak (Zbf ZcA b2) fun _ _ _=>trivial,by simp,by unfold Zp;simp,by unfold i64;simp,?_⟩;intro o ho;simp only[List.mem_cons,List.not_mem_nil,or_false]at ho;subst ho;unfold HOp.ok i64;decide
  ·exact⟨fun h=>absurd rfl h,by simp,by unfold Zp;simp,by unfold i64;simp,fun o ho=>by cases ho⟩
 ·intro o ho;simp only[h45,ZlP,List.mem_cons,List.not_mem_nil,or_false]at ho;subst ho;refine⟨Ints.weak (Zb6 (xs:=[1]) b4) fun _ _ _=>trivial,by simp,by simp,by unfold i64;simp,?_⟩;intro m hm;simp only[List.mem_cons,List.not_mem_nil,or_false]at hm;subst hm;unfold i64;simp
theorem Zns {W:World} {n:Nat} (h:(h45 n).lies (fun _=>True) W):(ZhJ n).lies (fun _=>True) W:=
 ⟨h.txs,fun h=>absurd rfl h,h.tx,(fun o ho=>by simp[ZhJ]at ho),h.c,Nat.le_refl _,h.few,by simp[ZhJ]⟩
section
variable {F G:Nat→Prop} {w:World} {txs:List HTx} {ords:List HOrd} {A:Option Addr} {c:Nat} {B:Option Addr} {d n m p:Nat}
theorem ZfB (H:Hist.lies F w ⟨txs,ords,A,c,B,d⟩) (hl:Zv ⟨txs,ords,A,c,B,d⟩=true) (hn:txs.length=n) (hm:ords.length=m) {a:List Int} {k:Int} (ho:Zcx ⟨txs,ords,A,c,B,d⟩=(a,k)) (hp:a.length=p):
  Calls Tryz.prog 31 #[.agg #[.slice A n c,.slice B m d]] w fun e w'=>∃A' c',e= .returned (.tuple #[.slice A' p c',.int .i64 k])∧Ints (fun i=>w.heap.size≤i) w' A' a∧Upd No w w':=by
 subst hn hm hp;refine(ZqY F w txs ords A c B d H hl).mono ?_;rw[ho];rintro e w' ⟨A',c',rfl,h1,h2⟩;exact⟨A',c',rfl,Ints.of_owned h1,h2⟩
theorem Zq0 (H:Hist.lies F w ⟨txs,ords,A,c,B,d⟩) (hn:txs.length=n) (hm:ords.length=m) {a:List Int} (ho:Zc txs=a) (hp:a.length=p):
  Calls Tryz.prog 34 #[.agg #[.slice A n c,.slice B m d]] w fun e w'=>∃A' c',e= .returned (.slice A' p c')∧Ints (fun i=>w.heap.size≤i) w' A' a∧Upd No w w':=by
 subst hn hm hp ho;refine(Zls F w txs ords A c B d H).mono ?_;rintro e w' ⟨A',c',rfl,h1,h2⟩;exact⟨A',c',rfl,Ints.of_owned h1,h2⟩
theorem Zb3 {E:Option Addr} {ec:Nat} {O:List Int} (H:Hist.lies F w ⟨txs,ords,A,c,B,d⟩) (HE:Ints G w E O) (hlO:O.length≤100000) (hn:txs.length=n) (hm:ords.length=m) (hp:O.length=p) {v:Bool} (hv:Zbp ⟨txs,ords,A,c,B,d⟩ O=v):
  Calls Tryz.prog 36 #[.agg #[.slice A n c,.slice B m d],.slice E p ec] w fun e w'=>e= .returned (.bool v)∧Upd No w w':=by
 subst hn hm hp;exact ZpZ F G w txs ords A c B d E ec O H HE hlO hv
theorem ZfC {E:Option Addr} {ec q:Nat} {O:List Int} (H:Hist.lies F w ⟨txs,ords,A,c,B,d⟩) (HE:Ints G w E O) (hlO:O.length≤1000) (hops:∀t∈txs,t.ops.length≤1000) (hn:txs.length=n) (hm:ords.length=m) (hp:O.length=p) {l:List (Int×Int)} (hv:Za7 txs O=l) (hq:l.length=q):
  Calls Tryz.prog 39 #[.agg #[.slice A n c,.slice B m d],.slice E p ec] w fun e w'=>∃A' c',e= .returned (.slice A' q c')∧Pairs (fun i=>w.heap.size≤i) w' A' l∧Upd No w w':=by
 subst hn hm hp hv hq;refine(ZqZ F G w txs ords A c B d E ec O H HE hlO hops).mono ?_;rintro e w' ⟨A',c',rfl,h1,h2⟩;exact⟨A',c',rfl,Pairs.of_own h1,h2⟩
theorem ZmC {A B:Option Addr} {c d:Nat} {xs ys:List Int} (hx:Ints F w A xs) (hy:Ints G w B ys) (hl:xs.length≤1048576) (hl2:ys.length≤1048576) (hn:xs.length=n) (hm:ys.length=m) {v:Bool} (hv:(xs==ys)=v):
  Calls Tryz.prog 33 #[.slice A n c,.slice B m d] w fun e w'=>e= .returned (.bool v)∧Upd No w w':=by
 subst hn hm hv;exact ZrZ w F G A B c d xs ys hx hy hl hl2
theorem ZkD {A B:Option Addr} {c d:Nat} {xs ys:List (Int×Int)} (hx:Pairs F w A xs) (hy:Pairs G w B ys) (hl:xs.length≤1000000) (hn:xs.length=n) (hm:ys.length=m) {v:Bool} (hv:(xs==ys)=v):
  Calls Tryz.prog 38 #[.slice A n c,.slice B m d] w fun e w'=>e= .returned (.bool v)∧Upd No w w':=by
 subst hn hm;exact Zp1 F G w A B c d xs ys hx hy hl hv
end
section
variable (n:Nat)
theorem Zs3:Zcx (Zas n)=([],16):=by kernel_rfl
theorem Zs2:Zv (h45 n)=true:=by kernel_rfl
theorem Zs1:Zcx (h45 n)=([2,1],0):=by kernel_rfl
theorem Zs0:Zv (ZhJ n)=true:=by kernel_rfl
theorem ZsZ:Zcx (ZhJ n)=([],5):=by kernel_rfl
theorem ZsY:Zc (Zd1 n)=[1,2]:=by kernel_rfl
theorem ZsX:Zbp (h45 n) [2,1]=true:=by kernel_rfl
theorem ZsW:Zbp (h45 n) [1,2]=false:=by kernel_rfl
theorem ZsV:Zbp (h45 n) [2]=false:=by kernel_rfl
theorem ZsU:Zbp (ZhJ n) [2,1]=false:=by kernel_rfl
theorem ZsT:Za7 (Zd1 n) [2,1]=[(5,1)]:=by kernel_rfl
theorem ZsS:Za7 (Zd1 n) []=[]:=by kernel_rfl
theorem Zq1:∀t∈Zd1 n,t.ops.length≤1000:=by
 intro t ht;simp only[Zd1,List.mem_cons,List.not_mem_nil,or_false]at ht;rcases ht with rfl|rfl|rfl<;>simp
end
theorem ZmU {W:World} {e:TypeId} (a b:Int):Pairs (fun _=>True) (W.alloc (.cells #[.int .i64 a,.int .i64 b] e)) (some ⟨W.heap.size,0,none⟩) [(a,b)]:=
 Recs.weak (Zbf (rows:=[[Value.int .i64 a,.int .i64 b]]) (fun r hr=>by rw[List.mem_singleton.1 hr];rfl) (Blk.new W e [.int .i64 a,.int .i64 b])) (fun _ _ _=>trivial)
set_option maxRecDepth 100000 in
set_option maxHeartbeats 8000000 in
theorem ZkS (w:World):Calls Tryz.prog 30 #[] w fun e w'=>e= .returned (.bool true)∧Upd No w w':=by
 go_enter Tryz.func30,Tryz.ntmps30
 go_wp2_with fail
 refine(ZrX _).mono ?_;rintro e w1 ⟨N,rfl,hs1,hu1⟩;have C2:=Qh (ZfB (c:=2) (d:=2) (n:=2) (m:=2) hs1 (ph0 N) rfl rfl (Zs3 N) rfl);clear hs1
 go_wp2_with fail
 refine(C2.out).mono ?_;rintro e w2 ⟨A2,c2,rfl,_,hu2⟩;obtain⟨n,hn⟩:∃n,w2.heap.size=n:=⟨_,rfl⟩;obtain⟨wa,hwa⟩:∃wa,w2.alloc (.cells #[.bool false,.int .i64 5,.int .i64 0,.int .i64 0] 82)=wa:=⟨_,rfl⟩;have sa:wa.heap.size=n+1:=by rw[←hwa,←hn];simp
 obtain⟨wb,hwb⟩:∃wb,wa.alloc (.cells #[.bool true,.int .i64 5,.int .i64 0,.int .i64 0] 82)=wb:=⟨_,rfl⟩;have sb:wb.heap.size=n+2:=by rw[←hwb];simp[sa]
 obtain⟨wc,hwc⟩:∃wc,wb.alloc (.cells #[.int .i64 1,.bool true,.slice (some ⟨n,0,none⟩) 1 1,.int .i64 2,.bool true,.slice (some ⟨n+1,0,none⟩) 1 1,.int .i64 3,.bool false,.slice none 0 0] 85)=wc:=⟨_,rfl⟩;have sc:wc.heap.size=n+3:=by rw[←hwc];simp[sb]
 obtain⟨wd,hwd⟩:∃wd,wc.alloc (.cells #[.int .i64 1] 3)=wd:=⟨_,rfl⟩;have sd:wd.heap.size=n+4:=by rw[←hwd];simp[sc]
 obtain⟨we,hwe⟩:∃we,wd.alloc (.cells #[.int .i64 5,.slice (some ⟨n+3,0,none⟩) 1 1] 102)=we:=⟨_,rfl⟩;have se:we.heap.size=n+5:=by rw[←hwe];simp[sd]
 obtain⟨wf,hwf⟩:∃wf,we.alloc (.cells #[.slice (some ⟨n+2,0,none⟩) 3 3,.slice (some ⟨n+4,0,none⟩) 1 1] 50)=wf:=⟨_,rfl⟩;have ua:Upd No w2 wa:=by rw[←hwa];exact(Upd.refl No w2).alloc _
 have ub:Upd No wa wb:=by rw[←hwb];exact(Upd.refl No wa).alloc _
 have uc:Upd No wb wc:=by rw[←hwc];exact(Upd.refl No wb).alloc _
 have ud:Upd No wc wd:=by rw[←hwd];exact(Upd.refl No wc).alloc _
 have ue:Upd No wd we:=by rw[←hwe];exact(Upd.refl No wd).alloc _
 have uf:Upd No we wf:=by rw[←hwf];exact(Upd.refl No we).alloc _
 have ba:Blk wf n 82 [.bool false,.int .i64 5,.int .i64 0,.int .i64 0]:=(by rw[←hwa,←hn];exact Blk.new w2 _ _:Blk wa n _ _).upd ((((ub.trans uc).trans ud).trans ue).trans uf) id;have bb:Blk wf (n+1) 82 [.bool true,.int .i64 5,.int .i64 0,.int .i64 0]:=(by rw[←hwb,←sa];exact Blk.new wa _ _:Blk wb (n+1) _ _).upd (((uc.trans ud).trans ue).trans uf) id;have bc:Blk wf (n+2) 85 [.int .i64 1,.bool true,.slice (some ⟨n,0,none⟩) 1 1,.int .i64 2,.bool true,.slice (some ⟨n+1,0,none⟩) 1 1,.int .i64 3,.bool false,.slice none 0 0]:=(by rw[←hwc,←sb];exact Blk.new wb _ _:Blk wc (n+2) _ _).upd ((ud.trans ue).trans uf) id;have bd:Blk wf (n+3) 3 [.int .i64 1]:=(by rw[←hwd,←sc];exact Blk.new wc _ _:Blk wd (n+3) _ _).upd (ue.trans uf) id;have be:Blk wf (n+4) 102 [.int .i64 5,.slice (some ⟨n+3,0,none⟩) 1 1]:=(by rw[←hwe,←sd];exact Blk.new wd _ _:Blk we (n+4) _ _).upd uf id;have bf:Blk wf (n+5) 50 [.slice (some ⟨n+2,0,none⟩) 3 3,.slice (some ⟨n+4,0,none⟩) 1 1]:=by rw[←hwf,←se];exact Blk.new we _ _
 have HH:=Qh (ZoT ba bb bc bd be);have HN:=Qh (Zns HH.out);have h0:∀W,Upd No wf W→W.cell? ⟨n+5,0,none⟩=some (.slice (some ⟨n+2,0,none⟩) 3 3):=fun W u=>(bf.upd u id).cell 0
 have h1:∀W,Upd No wf W→W.cell? ⟨n+5,1,none⟩=some (.slice (some ⟨n+4,0,none⟩) 1 1):=fun W u=>(bf.upd u id).cell 1
 have hff:Upd No wf wf:=Upd.refl _ _;have UF:=Qh ((((((((hu1.trans hu2).trans ua).trans ub).trans uc).trans ud).trans ue).trans uf));have CO:=Qh (fun W (u:Upd No wf W)=>ZfB (c:=3) (d:=1) (HH.out.upd u (fun _ _=>id)) (Zs2 n) (n:=3) (m:=1) rfl rfl (Zs1 n) (p:=2) rfl);have CP:=Qh (fun W (u:Upd No wf W)=>ZfB (c:=3) (d:=0) (HN.out.upd u (fun _ _=>id)) (Zs0 n) (n:=3) (m:=0) rfl rfl (ZsZ n) (p:=0) rfl);have CD:=Qh (fun W (u:Upd No wf W)=>Zq0 (c:=3) (d:=1) (HH.out.upd u (fun _ _=>id)) (n:=3) (m:=1) rfl rfl (ZsY n) (p:=2) rfl);clear ba bb bc bd be bf hu1 hu2 ua ub uc ud ue uf C2
 go_wp2_with fail
 clear hwa hwb hwc hwd hwe hwf;refine(CO.out _ hff).mono ?_;rintro e w3 ⟨A3,c3,rfl,hi3,hu3⟩;have u3:=hff.trans hu3;have H3:=Qh hi3;clear hi3 hu3 CO
 go_wp2_with fail
 refine(CP.out _ u3).mono ?_;rintro e w4 ⟨A4,c4,rfl,_,hu4⟩;have H4:=Qh (H3.out.upd hu4 (fun _ _=>id));have u4:=u3.trans hu4;clear hu4 H3 CP u3;have k1:Upd No w4 (w4.alloc (.cells #[.int .i64 2,.int .i64 1] 3)):=(Upd.refl No w4).alloc _;have C5:=Qh (ZmC (c:=c3) (d:=2) (v:=true) (H4.out.upd k1 (fun _ _=>id)) (Zb6 (xs:=[2,1]) (Blk.new w4 3 [.int .i64 2,.int .i64 1])) (by decide) (by decide) (n:=2) (m:=2) rfl rfl (by decide))
 go_wp2_with fail
 refine(C5.out).mono ?_;rintro e w5 ⟨rfl,hu5⟩;have H5:=Qh (H4.out.upd (k1.trans hu5) (fun _ _=>id));have u5:=u4.trans (k1.trans hu5);clear k1 hu5 H4 u4 C5
 go_wp2_with fail
 refine(CD.out _ u5).mono ?_;rintro e w6 ⟨A6,c6,rfl,hi6,hu6⟩;have k2:Upd No w6 (w6.alloc (.cells #[.int .i64 1,.int .i64 2] 3)):=(Upd.refl No w6).alloc _;have C7:=Qh (ZmC (c:=c6) (d:=2) (v:=true) (hi6.upd k2 (fun _ _=>id)) (Zb6 (xs:=[1,2]) (Blk.new w6 3 [.int .i64 1,.int .i64 2])) (by decide) (by decide) (n:=2) (m:=2) rfl rfl (by decide))
 go_wp2_with fail
 refine(C7.out).mono ?_;rintro e w7 ⟨rfl,hu7⟩;have H7:=Qh (H5.out.upd (hu6.trans (k2.trans hu7)) (fun _ _=>id));have u7:=u5.trans (hu6.trans (k2.trans hu7));clear k2 hu6 hu7 hi6 H5 u5 C7 CD;have C8:=Qh (Zb3 (c:=3) (d:=1) (ec:=c3) (HH.out.upd u7 (fun _ _=>id)) H7.out (by decide) (n:=3) (m:=1) (p:=2) rfl rfl rfl (ZsX n))
 go_wp2_with fail
 refine(C8.out).mono ?_;rintro e w8 ⟨rfl,hu8⟩;have H8:=Qh (H7.out.upd hu8 (fun _ _=>id));have u8:=u7.trans hu8;clear hu8 H7 u7 C8;have k3:Upd No w8 (w8.alloc (.cells #[.int .i64 1,.int .i64 2] 3)):=(Upd.refl No w8).alloc _;have k3':=u8.trans k3;have C9:=Qh (Zb3 (c:=3) (d:=1) (ec:=2) (HH.out.upd k3' (fun _ _=>id)) (Zb6 (xs:=[1,2]) (Blk.new w8 3 [.int .i64 1,.int .i64 2])) (by decide) (n:=3) (m:=1) (p:=2) rfl rfl rfl (ZsW n))
 go_wp2_with fail
 refine(C9.out).mono ?_;rintro e w9 ⟨rfl,hu9⟩;have H9:=Qh (H8.out.upd (k3.trans hu9) (fun _ _=>id));have u9:=u8.trans (k3.trans hu9);clear hu9 H8 u8 C9 k3 k3';have k4:Upd No w9 (w9.alloc (.cells #[.int .i64 2] 3)):=(Upd.refl No w9).alloc _;have k4':=u9.trans k4;have C10:=Qh (Zb3 (c:=3) (d:=1) (ec:=1) (HH.out.upd k4' (fun _ _=>id)) (Zb6 (xs:=[2]) (Blk.new w9 3 [.int .i64 2])) (by decide) (n:=3) (m:=1) (p:=1) rfl rfl rfl (ZsV n))
 go_wp2_with fail
 refine(C10.out).mono ?_;rintro e w10 ⟨rfl,hu10⟩;have H10:=Qh (H9.out.upd (k4.trans hu10) (fun _ _=>id));have u10:=u9.trans (k4.trans hu10);clear hu10 H9 u9 C10 k4 k4';have C11:=Qh (Zb3 (c:=3) (d:=0) (ec:=c3) (HN.out.upd u10 (fun _ _=>id)) H10.out (by decide) (n:=3) (m:=0) (p:=2) rfl rfl rfl (ZsU n))
 go_wp2_with fail
 refine(C11.out).mono ?_;rintro e w11 ⟨rfl,hu11⟩;have H11:=Qh (H10.out.upd hu11 (fun _ _=>id));have u11:=u10.trans hu11;clear hu11 H10 u10 C11;have C12:=Qh (ZfC (c:=3) (d:=1) (ec:=c3) (HH.out.upd u11 (fun _ _=>id)) H11.out (by decide) (Zq1 n) (n:=3) (m:=1) (p:=2) rfl rfl rfl (ZsT n) (q:=1) rfl)
 go_wp2_with fail
 refine(C12.out).mono ?_;rintro e w12 ⟨A12,c12,rfl,hp12,hu12⟩;have k5:Upd No w12 (w12.alloc (.cells #[.int .i64 5,.int .i64 1] 121)):=(Upd.refl No w12).alloc _;have C13:=Qh (ZkD (c:=c12) (d:=1) (v:=true) (Recs.upd hp12 k5 (fun _ _=>id)) (ZmU (W:=w12) (e:=121) 5 1) (by decide) (n:=1) (m:=1) rfl rfl (by decide));have u12:=u11.trans hu12;clear hp12 hu12 u11 C12 H11
 go_wp2_with fail
 refine(C13.out).mono ?_;rintro e w13 ⟨rfl,hu13⟩;have u13:=u12.trans (k5.trans hu13);clear hu13 u12 k5 C13;have C14:=Qh (ZfC (G:=fun _=>True) (c:=3) (d:=1) (E:=none) (ec:=0) (O:=[]) (HH.out.upd u13 (fun _ _=>id)) Ints.nil_ (by decide) (Zq1 n) (n:=3) (m:=1) (p:=0) rfl rfl rfl (ZsS n) (q:=0) rfl)
 go_wp2_with fail
 refine(C14.out).mono ?_;rintro e w14 ⟨A14,c14,rfl,_,hu14⟩;go_wp2
 go_ret
 exact⟨rfl,UF.out.trans (u13.trans hu14)⟩
end
/- Orders as if one by one:the laws:the walks. -/
section
open Go.RowKit
theorem ZoE (b1 b2 b3 b4 b5:Bool):(ZlH b1 b2 b3 b4 b5==3)=(!b1&&(!b2&&(!b3&&(!b4&& !b5)))):=by
 cases b1<;>cases b2<;>cases b3<;>cases b4<;>cases b5<;>rfl
theorem Zio {h:Hist} (hl:Zv h=true):(∀t∈h.txs,t.ops.length≤1000)∧(∀o∈h.ords,o.txs.length≤1000000)∧(Zc h.txs).length≤12:=by
 unfold Zv at hl;simp only[Bool.and_eq_true,decide_eq_true_eq,List.all_eq_true]at hl;refine⟨fun t ht=>Nat.le_trans (hl.1.2 t ht) (by decide),fun o ho=>Nat.le_trans (hl.2 o ho) (by decide),?_⟩;unfold Zc;rw[List.length_map];exact Nat.le_trans (List.length_filter_le _ _) hl.1.1.1
theorem ZkN {h:Hist} (hl:Zv h=true):(Zcx h).1.length≤1000:=by
 unfold Zcx
 split
 ·have h1:=(Zio hl).2.2
  cases ho:Za4 (Zc h.txs) (Zl (Zh h))with
  |none=>exact Nat.zero_le _
  |some l=>
   have hn:=ZgQ ho;have hm:=fun x=>Zgh ho x
   exact Nat.le_trans (Zbo l (Zc h.txs) hn fun x hx=>(hm x).1 hx) (Nat.le_trans h1 (by decide))
 ·exact Nat.zero_le _
section
variable {F G:Nat→Prop} {w:World} {txs:List HTx} {ords:List HOrd} {A:Option Addr} {c:Nat} {B:Option Addr} {d:Nat}
theorem ZmX (H:Hist.lies F w ⟨txs,ords,A,c,B,d⟩) (hl:Zv ⟨txs,ords,A,c,B,d⟩=true) {a:List Int} {k:Int} (ho:Zcx ⟨txs,ords,A,c,B,d⟩=(a,k)):
  Calls Tryz.prog 31 #[.agg #[.slice A txs.length c,.slice B ords.length d]] w fun e w'=>∃A' c',e= .returned (.tuple #[.slice A' a.length c',.int .i64 k])∧Ints (fun i=>w.heap.size≤i) w' A' a∧Upd No w w':=ZfB H hl rfl rfl ho rfl
theorem Zpj (H:Hist.lies F w ⟨txs,ords,A,c,B,d⟩) (hl:Zv ⟨txs,ords,A,c,B,d⟩=true):Calls Tryz.prog 42 #[.agg #[.slice A txs.length c,.slice B ords.length d]] w fun e w'=>
  ∃(b0 b1 b2 b3 b4 b5:Bool) (k:Int),e= .returned (.agg #[.bool b0,.bool b1,.bool b2,.bool b3,.bool b4,.bool b5,.int .i64 k])∧(k==3)=ZcH ⟨txs,ords,A,c,B,d⟩∧Upd No w w':=by
 refine(ZoJ F w txs ords A c B d H hl).mono ?_;rintro e w' ⟨rfl,hu⟩;exact⟨_,_,_,_,_,_,_,rfl,ZoE _ _ _ _ _,hu⟩
end
set_option maxRecDepth 100000 in
set_option maxHeartbeats 8000000 in
theorem ZpO (F:Nat→Prop) (w:World) (txs:List HTx) (ords:List HOrd) (A:Option Addr) (c:Nat) (B:Option Addr) (d:Nat) (H:Hist.lies F w ⟨txs,ords,A,c,B,d⟩) (L:Hid (∀w,Calls Tryz.prog 30 #[] w fun e w'=>e= .returned (.bool true)∧Upd No w w')):
  Calls Tryz.prog 7 #[.agg #[.slice A txs.length c,.slice B ords.length d]] w fun e w'=>e= .returned (.bool true)∧Upd No w w':=by
 obtain⟨wb,hwb⟩:∃wb,w.alloc (.cells #[.slice A txs.length c,.slice B ords.length d] 50)=wb:=⟨_,rfl⟩;have ub:Upd No w wb:=by rw[←hwb];exact(Upd.refl No w).alloc _
 have bH:Blk wb w.heap.size 50 [.slice A txs.length c,.slice B ords.length d]:=by rw[←hwb];exact Blk.new w _ _
 have h0:∀W,Upd No wb W→W.cell? ⟨w.heap.size,0,none⟩=some (.slice A txs.length c):=fun W u=>(bH.upd u id).cell 0
 have h1:∀W,Upd No wb W→W.cell? ⟨w.heap.size,1,none⟩=some (.slice B ords.length d):=fun W u=>(bH.upd u id).cell 1
 have hr:Upd No wb wb:=Upd.refl _ _;have U0:=Qh ub;have GH:=Qh (H.upd ub (fun _ _=>id));obtain⟨lv,hlv⟩:∃lv,Zv ⟨txs,ords,A,c,B,d⟩=lv:=⟨_,rfl⟩;have HV:=Qh hlv;have CL:=Qh (fun W (u:Upd No wb W)=>ZkT (GH.out.upd u (fun _ _=>id)) hlv);clear bH ub hlv;clear H
 go_enter Tryz.func7,Tryz.ntmps7
 go_wp2_with fail
 refine(L.out _).mono ?_;rintro e w1 ⟨rfl,hu1⟩;have u1:=hr.trans hu1
 go_wp2_with fail
 refine(CL.out _ u1).mono ?_;rintro e w2 ⟨rfl,hu2⟩;have u2:=u1.trans hu2
 cases lv
 ·go_wp2
  go_ret
  exact⟨rfl,U0.out.trans u2⟩
 obtain⟨r,hrr⟩:∃r,Za ⟨txs,ords,A,c,B,d⟩=r:=⟨_,rfl⟩;have HRR:=Qh hrr;have CR:=Qh (Zef (GH.out.upd u2 (fun _ _=>id)) hrr);clear hrr u1 hu1 hu2
 go_wp2_with fail
 refine(CR.out).mono ?_;rintro e w3 ⟨rfl,hu3⟩;have u3:=u2.trans hu3;clear hu3 u2 CR
 cases r
 ·go_wp2
  go_ret
  exact⟨rfl,U0.out.trans u3⟩
 obtain⟨⟨O,k⟩,hO⟩:∃o,Zcx ⟨txs,ords,A,c,B,d⟩=o:=⟨_,rfl⟩;have HOL:=Qh (show O.length≤1000 by have:=ZkN HV.out;rwa [hO]at this);have CO:=Qh (ZmX (GH.out.upd u3 (fun _ _=>id)) HV.out hO)
 have HNO:=Qh (show(k=0∧Zbp ⟨txs,ords,A,c,B,d⟩ O=ZcH ⟨txs,ords,A,c,B,d⟩)∨(k=16∧ZcH ⟨txs,ords,A,c,B,d⟩=false) by
  unfold Zcx at hO;rw[HRR.out,if_pos rfl]at hO
  cases ho:Za4 (Zc (Hist.txs ⟨txs,ords,A,c,B,d⟩)) (Zl (Zh ⟨txs,ords,A,c,B,d⟩))with
  |some a=>
   rw[ho]at hO
   cases hO
   exact Or.inl ⟨rfl,by rw[ZiM];exact ZfV HRR.out ho⟩
  |none=>
   rw[ho]at hO
   cases hO
   have:=Zf3 HRR.out;rw[ho,decide_eq_true rfl]at this;refine Or.inr ⟨rfl,?_⟩;unfold ZcH;have h3:=this.symm;rw[Bool.or_eq_true]at h3;rcases h3 with h3|h3<;>rw[h3]<;>simp)
 clear hO
 go_wp2_with fail
 refine(CO.out).mono ?_;rintro e w4 ⟨A4,c4,rfl,hi4,hu4⟩;have u4:=u3.trans hu4;have HI4:=Qh hi4;have CV:=Qh (Zpj (GH.out.upd u4 (fun _ _=>id)) HV.out);clear hi4 hu4 u3 CO;have hfld:∀(b0 b1 b2 b3 b4 b5:Bool) (k:Int) W,(Instr.field 74 (.agg #[.bool b0,.bool b1,.bool b2,.bool b3,.bool b4,.bool b5,.int .i64 k]) 1).run Tryz.prog W= .ok (.int .i64 k) W:=fun b0 b1 b2 b3 b4 b5 k W=>by kernel_rfl
 go_wp2_with fail
 refine(CV.out).mono ?_;rintro e w5 ⟨b0,b1,b2,b3,b4,b5,q,rfl,hq,hu5⟩;have u5:=u4.trans hu5;have HI5:=Qh (HI4.out.upd hu5 (fun _ _=>id));have HQ:=Qh hq;obtain⟨nb,hnb⟩:∃nb,ZcH ⟨txs,ords,A,c,B,d⟩=nb:=⟨_,rfl⟩;rw[hnb]at hq HNO;clear hu5 u4 HI4 CV hnb
 cases nb
 ·rcases HNO.out with ⟨rfl,ha⟩|⟨rfl,_⟩
  ·have CA:=Qh (Zb3 (c:=c) (d:=d) (ec:=c4) (GH.out.upd u5 (fun _ _=>id)) HI5.out (Nat.le_trans HOL.out (by decide)) rfl rfl rfl ha);clear ha
   go_wp2_with fail
   refine(CA.out).mono ?_;rintro e w6 ⟨rfl,hu6⟩;go_wp2
   go_ret
   exact⟨rfl,U0.out.trans (u5.trans hu6)⟩
  ·go_wp2
   go_ret
   exact⟨rfl,U0.out.trans u5⟩
 ·obtain⟨rfl,ha⟩:k=0∧Zbp ⟨txs,ords,A,c,B,d⟩ O=true:=by
   rcases HNO.out with h|⟨_,h⟩
   ·exact h
   ·cases h
  have CA:=Qh (Zb3 (c:=c) (d:=d) (ec:=c4) (GH.out.upd u5 (fun _ _=>id)) HI5.out (Nat.le_trans HOL.out (by decide)) rfl rfl rfl ha);clear ha
  go_wp2_with fail
  refine(CA.out).mono ?_;rintro e w6 ⟨rfl,hu6⟩;go_wp2
  go_ret
  exact⟨rfl,U0.out.trans (u5.trans hu6)⟩
set_option maxRecDepth 100000 in
set_option maxHeartbeats 16000000 in
theorem Zsz (F G:Nat→Prop) (w:World) (txs:List HTx) (ords:List HOrd) (A:Option Addr) (c:Nat) (B:Option Addr) (d:Nat) (E:Option Addr) (ec:Nat) (O:List Int) (H:Hist.lies F w ⟨txs,ords,A,c,B,d⟩) (HE:Ints G w E O)
  (L:Hid (∀w,Calls Tryz.prog 30 #[] w fun e w'=>e= .returned (.bool true)∧Upd No w w')):
  Calls Tryz.prog 8 #[.agg #[.slice A txs.length c,.slice B ords.length d],.slice E O.length ec] w fun e w'=>e= .returned (.bool true)∧Upd No w w':=by
 obtain⟨wb,hwb⟩:∃wb,w.alloc (.cells #[.slice A txs.length c,.slice B ords.length d] 50)=wb:=⟨_,rfl⟩;have ub:Upd No w wb:=by rw[←hwb];exact(Upd.refl No w).alloc _
 have bH:Blk wb w.heap.size 50 [.slice A txs.length c,.slice B ords.length d]:=by rw[←hwb];exact Blk.new w _ _
 have h0:∀W,Upd No wb W→W.cell? ⟨w.heap.size,0,none⟩=some (.slice A txs.length c):=fun W u=>(bH.upd u id).cell 0
 have h1:∀W,Upd No wb W→W.cell? ⟨w.heap.size,1,none⟩=some (.slice B ords.length d):=fun W u=>(bH.upd u id).cell 1
 have hr:Upd No wb wb:=Upd.refl _ _;have U0:=Qh ub;have GH:=Qh (H.upd ub (fun _ _=>id));obtain⟨lv,hlv⟩:∃lv,Zv ⟨txs,ords,A,c,B,d⟩=lv:=⟨_,rfl⟩;have HV:=Qh hlv;have CL:=Qh (fun W (u:Upd No wb W)=>ZkT (GH.out.upd u (fun _ _=>id)) hlv);clear bH ub hlv;have GE:=Qh (HE.upd U0.out (fun _ _=>id));clear H HE
 go_enter Tryz.func8,Tryz.ntmps8
 go_wp2_with fail
 refine(L.out _).mono ?_;rintro e w1 ⟨rfl,hu1⟩;have u1:=hr.trans hu1
 go_wp2_with fail
 refine(CL.out _ u1).mono ?_;rintro e w2 ⟨rfl,hu2⟩;have u2:=u1.trans hu2
 cases lv
 ·go_wp2
  go_ret
  exact⟨rfl,U0.out.trans u2⟩
 by_cases g2:24<O.length
 ·have e2:decide ((24:Int)<(O.length:Int))=true:=decide_eq_true (by omega);go_wp2
  go_ret
  exact⟨rfl,U0.out.trans u2⟩
 have e2:decide ((24:Int)<(O.length:Int))=false:=decide_eq_false (by omega);have G2:=Qh (show O.length≤24 by omega);obtain⟨ag,hag⟩:∃ag,Zbp ⟨txs,ords,A,c,B,d⟩ O=ag:=⟨_,rfl⟩;have HAG:=Qh hag;have CA:=Qh (Zb3 (c:=c) (d:=d) (ec:=ec) (GH.out.upd u2 (fun _ _=>id)) (GE.out.upd u2 (fun _ _=>id)) (Nat.le_trans G2.out (by decide)) rfl rfl rfl hag);clear g2 hag u1 hu1 hu2
 go_wp2_with fail
 refine(CA.out).mono ?_;rintro e w3 ⟨rfl,hu3⟩;have u3:=u2.trans hu3;clear hu3 u2 CA
 cases ag
 ·go_wp2
  go_ret
  exact⟨rfl,U0.out.trans u3⟩
 have hA:AgreeP ⟨txs,ords,A,c,B,d⟩ O:=agreeS_iff.1 (by rw[←ZiM];exact HAG.out);have hrr:Za ⟨txs,ords,A,c,B,d⟩=true:=hA.right
 have hno:ZcH ⟨txs,ords,A,c,B,d⟩=true:=by
  unfold ZcH;rw[ZX hA,ZX hA,ZX hA,ZX hA,ZX hA];rfl
 obtain⟨l,hol⟩:∃l,Za4 (Zc txs) (Zl (Zh ⟨txs,ords,A,c,B,d⟩))=some l:=by
  have:=Zf3 hrr;rw[ZX hA,ZX hA]at this
  cases ho:Za4 (Zc txs) (Zl (Zh ⟨txs,ords,A,c,B,d⟩))with
  |some l=>exact⟨l,rfl⟩
  |none=>rw[ho]at this;simp at this
 have hO:Zcx ⟨txs,ords,A,c,B,d⟩=(l,0):=by unfold Zcx;rw[hrr,if_pos rfl];simp only[hol];rfl
 have hB:AgreeP ⟨txs,ords,A,c,B,d⟩ l:=agreeS_iff.1 (by rw[ZfV hrr hol];exact hno);have HFO:=Qh (show Za7 txs l=Za7 txs O from Zny (h:=⟨txs,ords,A,c,B,d⟩) hB hA);have hal:(Zl (Zh ⟨txs,ords,A,c,B,d⟩)).all (ZW O)=true:=(ZdS _ _).2 fun e he _ _=>Zf8 hA e he
 have HOL:=Qh (show l.length≤1000 by have:=ZkN HV.out;rwa [hO]at this);have CO:=Qh (ZmX (GH.out.upd u3 (fun _ _=>id)) HV.out hO);have HNO:=Qh hno;have CR:=Qh (fun W (u:Upd No wb W)=>Zef (GH.out.upd u (fun _ _=>id)) hrr);have CV:=Qh (fun W (u:Upd No wb W)=>Zpj (GH.out.upd u (fun _ _=>id)) HV.out);have hop:=Zio HV.out;have hfew:=Zfk HV.out;obtain⟨ED,hED⟩:∃ED,Zh ⟨txs,ords,A,c,B,d⟩=ED:=⟨_,rfl⟩;obtain⟨PL,hPL⟩:∃PL,Zl ED=PL:=⟨_,rfl⟩;have hpl:PL.length=ED.length:=by rw[←hPL];unfold Zl;rw[List.length_map]
 have hn12:=Ze9 HV.out;have CE:=Qh (fun W (u:Upd No wb W)=>Zi6 (GH.out.upd u (fun _ _=>id)) hn12.1 hn12.2 rfl rfl hED rfl);rw[hED]at hfew hal;rw[hPL]at hal;have HPL:=Qh hPL;have HFEW:=Qh hfew;have HAL:=Qh hal;have HPLL:=Qh hpl;obtain⟨FS,hFS⟩:∃FS,Za7 txs O=FS:=⟨_,rfl⟩;rw[hFS]at HFO;have CF1:=Qh (fun W (u:Upd No wb W)=>ZfC (c:=c) (d:=d) (ec:=ec) (GH.out.upd u (fun _ _=>id)) (GE.out.upd u (fun _ _=>id)) (Nat.le_trans G2.out (by decide)) hop.1 rfl rfl rfl hFS rfl);have HOP:=Qh hop.1
 have HFL:=Qh (show FS.length≤1000000 by
  rw[←hFS];unfold Za7;rw[List.length_map]
  have h3:=ZcM txs O [] (n:=1000) (fun id _=>by
   unfold Zae
   cases hf:Zd txs id with
   |none=>exact Nat.zero_le _
   |some t=>exact hop.1 t (Zba hf))
  simp only[List.length_nil,Nat.zero_add]at h3;have:=Nat.mul_le_mul_left 1000 G2.out;omega)
 clear hA hrr hno hol hO hB hal hop hfew hED hPL hpl hn12 hFS HAG
 go_wp2_with fail
 refine(CO.out).mono ?_;rintro e w4 ⟨A4,c4,rfl,hi4,hu4⟩;have u4:=u3.trans hu4;have HI4:=Qh hi4;have CF2:=Qh (fun W (u:Upd No w4 W)=>ZfC (c:=c) (d:=d) (ec:=c4) (GH.out.upd (u4.trans u) (fun _ _=>id)) (HI4.out.upd u (fun _ _=>id)) HOL.out HOP.out rfl rfl rfl HFO.out rfl);clear hi4 hu4 u3 CO;have hfld:∀(b0 b1 b2 b3 b4 b5:Bool) (k:Int) W,(Instr.field 74 (.agg #[.bool b0,.bool b1,.bool b2,.bool b3,.bool b4,.bool b5,.int .i64 k]) 1).run Tryz.prog W= .ok (.int .i64 k) W:=fun b0 b1 b2 b3 b4 b5 k W=>by kernel_rfl
 have hb4:Upd No w4 w4:=Upd.refl _ _;have k0:∀W,Upd No w4 W→W.cell? ⟨w.heap.size,0,none⟩=some (.slice A txs.length c):=fun W u=>h0 W (u4.trans u)
 have k1:∀W,Upd No w4 W→W.cell? ⟨w.heap.size,1,none⟩=some (.slice B ords.length d):=fun W u=>h1 W (u4.trans u)
 go_wp2;refine wp_region_noPanic ?_;refine wp_region_held_drew (S:=(fun W'=>Upd No w4 W')) (by kernel_rfl) ?_ (fun hHeld=> ?_)
 ·(first|exact hb4.drew|(with_reducible exact hHeld)|(with_reducible exact hHeld.trans hux))
 refine wpK 0 rfl ?_;refine wpR [1] ?_;refine wpC rfl (fun K hK=> ?_) AllReadyH.nil;go_simp
 (first
  |(go_at_call 41;refine(CR.out _ (u4.trans hHeld)).mono ?_;rintro e w5 ⟨rfl,hux⟩))
 try (go_wp2_with fail)
 refine hK.out _ _ ?_ (fun hHeld=> ?_)
 ·(first|exact hb4.drew|(with_reducible exact hHeld)|(with_reducible exact hHeld.trans hux))
 clear hK K
 try simp only[Act.put,sT,sS,sZ]
 refine wpK 2 rfl ?_;refine wpK 3 rfl ?_;refine wpR [4] ?_;refine wpC rfl (fun K hK=> ?_) AllReadyH.nil;go_simp
 (first
  |(go_at_call 42;refine(CV.out _ (u4.trans hHeld)).mono ?_;rintro e w6 ⟨b0,b1,b2,b3,b4,b5,q,rfl,hq,hux⟩;rw[HNO.out]at hq))
 try (go_wp2_with fail)
 refine hK.out _ _ ?_ (fun hHeld=> ?_)
 ·(first|exact hb4.drew|(with_reducible exact hHeld)|(with_reducible exact hHeld.trans hux))
 clear hK K
 try simp only[Act.put,sT,sS,sZ]
 refine wpK 5 rfl ?_;refine wpK 6 rfl ?_;refine wpK 7 rfl ?_;refine wpK 8 rfl ?_;refine wpK 9 rfl ?_;refine wpK 10 rfl ?_;refine wpR [11] ?_;refine wpC rfl (fun K hK=> ?_) AllReadyH.nil;go_simp
 (first
  |(go_at_call 45;refine(CE.out _ (u4.trans hHeld)).mono ?_;rintro e w7 ⟨A7,c7,rfl,hx7,hux⟩;have HX7:=Qh hx7;clear hx7))
 try (go_wp2_with fail)
 refine hK.out _ _ ?_ (fun hHeld=> ?_)
 ·(first|exact hb4.drew|(with_reducible exact hHeld)|(with_reducible exact hHeld.trans hux))
 clear hK K
 try simp only[Act.put,sT,sS,sZ]
 refine wpR [12] ?_;refine wpC rfl (fun K hK=> ?_) AllReadyH.nil;go_simp
 (first
  |(go_at_call 44;refine(Zi5 HX7.out (by have:=HFEW.out;omega) rfl HPL.out rfl).mono ?_;rintro e w8 ⟨A8,c8,rfl,hx8,hux⟩;have HX8:=Qh hx8;clear hx8))
 try (go_wp2_with fail)
 refine hK.out _ _ ?_ (fun hHeld=> ?_)
 ·(first|exact hb4.drew|(with_reducible exact hHeld)|(with_reducible exact hHeld.trans hux))
 clear hK K
 try simp only[Act.put,sT,sS,sZ]
 refine wpR [13] ?_;refine wpC rfl (fun K hK=> ?_) AllReadyH.nil;go_simp
 (first
  |(go_at_call 43;obtain⟨GP,hGP⟩:=HX8.out;refine(ZrJ (c:=ec) (d:=c8) (GE.out.upd (u4.trans hHeld) (fun _ _=>id)) hGP (Nat.le_trans G2.out (by decide)) (by have:=HPLL.out;have:=HFEW.out;omega) rfl rfl HAL.out).mono ?_;rintro e w9 ⟨rfl,hux⟩;clear hGP))
 try (go_wp2_with fail)
 refine hK.out _ _ ?_ (fun hHeld=> ?_)
 ·(first|exact hb4.drew|(with_reducible exact hHeld)|(with_reducible exact hHeld.trans hux))
 clear hK K
 try simp only[Act.put,sT,sS,sZ]
 refine wpK 14 rfl ?_;refine wpK 15 rfl ?_;refine wpK 16 rfl ?_;refine wpK 17 rfl ?_;refine wpK 18 rfl ?_;refine wpK 19 rfl ?_;refine wpK 20 rfl ?_;refine wpK 21 rfl ?_;refine wpK 23 rfl ?_;refine wpK 24 rfl ?_;refine wpR [22] ?_;refine wpC rfl (fun K hK=> ?_) AllReadyH.nil;go_simp
 (first
  |(go_at_call 39;refine(CF1.out _ (u4.trans hHeld)).mono ?_;rintro e wp ⟨Ap,cp,rfl,hxp,hux⟩;(try have HQ2:=Qh (Recs.upd HQ2.out hux (fun _ _=>id)));have HQ1:=Qh (show Pairs (fun _=>True) wp Ap FS from Recs.weak hxp (fun _ _ _=>trivial));clear hxp))
 try (go_wp2_with fail)
 refine hK.out _ _ ?_ (fun hHeld=> ?_)
 ·(first|exact hb4.drew|(with_reducible exact hHeld)|(with_reducible exact hHeld.trans hux))
 clear hK K
 try simp only[Act.put,sT,sS,sZ]
 refine wpR [25] ?_;refine wpC rfl (fun K hK=> ?_) AllReadyH.nil;go_simp
 (first
  |(go_at_call 39;refine(CF2.out _ hHeld).mono ?_;rintro e wq ⟨Aq,cq,rfl,hxq,hux⟩;(try have HQ1:=Qh (Recs.upd HQ1.out hux (fun _ _=>id)));have HQ2:=Qh (show Pairs (fun _=>True) wq Aq FS from Recs.weak hxq (fun _ _ _=>trivial));clear hxq))
 try (go_wp2_with fail)
 refine hK.out _ _ ?_ (fun hHeld=> ?_)
 ·(first|exact hb4.drew|(with_reducible exact hHeld)|(with_reducible exact hHeld.trans hux))
 clear hK K
 try simp only[Act.put,sT,sS,sZ]
 refine wpR [26] ?_;refine wpC rfl (fun K hK=> ?_) AllReadyH.nil;go_simp
 (first
  |(go_at_call 38;refine(ZkD (c:=cp) (d:=cq) (v:=true) HQ1.out HQ2.out HFL.out rfl rfl (by simp)).mono ?_;rintro e ws ⟨rfl,hux⟩))
 try (go_wp2_with fail)
 refine hK.out _ _ ?_ (fun hHeld=> ?_)
 ·(first|exact hb4.drew|(with_reducible exact hHeld)|(with_reducible exact hHeld.trans hux))
 clear hK K
 try simp only[Act.put,sT,sS,sZ]
 refine wpK 27 rfl ?_;refine wpK 28 rfl ?_;refine wpD (NoPanic.normal ?_);have HL:=Qh hHeld;clear hHeld;go_wp2
 go_ret
 exact⟨rfl,U0.out.trans (u4.trans HL.out)⟩
end
/- Orders as if one by one:all that the laws lean on. -/
section
open Go.RowKit
theorem Znj {w:World} {A:Option Addr} {len cap:Nat} {zs:List Int} (h:(A=none∧len=0∧cap=0∧zs=[])∨∃x,A=some x∧len≤cap∧cap≤maxLen∧zs.length=cap∧(∀i,i<zs.length→w.cell? (x.add i)=some (.int .i64 (zs.getD i 0)))∧∀n∈zs,(Lit.int .i64 n).wf=true):∃l:List Int,Ints (fun _=>True) w A l∧l.length=len∧l.length≤cap:=by
 rcases h with ⟨rfl,rfl,rfl,rfl⟩|⟨ad,rfl,hl,hm,hz,hcell,_⟩
 ·exact⟨[],Ints.nil_,rfl,Nat.le_refl _⟩
 ·exact⟨zs.take len,(Ints.of_cells hcell).take,by rw[List.length_take];omega,by rw[List.length_take];omega⟩
end
end Go.Proofs.YtonblekdfinpkaaGreat
