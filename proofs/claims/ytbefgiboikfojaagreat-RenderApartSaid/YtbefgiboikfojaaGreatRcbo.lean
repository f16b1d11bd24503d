/- Edges of a history: the law that the edges are those of all keys. -/
import Derived.Test.YtbefgiboikfojaaGreatRcbc
import Derived.Test.YtbefgiboikfojaaGreatRcbm
namespace Go.Proofs.YtbefgiboikfojaaGreat
open Go.RowKit
set_option linter.unusedVariables false
set_option linter.unusedSimpArgs false
set_option maxRecDepth 100000
set_option maxHeartbeats 8000000
theorem Zmm{h:Hist}{x:Hvy}(hx:x∈ZB h):Zc h=true:=by
 cases hr:Zc h with
 |true=>rfl
 |false=>unfold ZB at hx;rw[if_neg (by rw[hr];decide)]at hx;cases hx
/- Reads that may not be,plain:those whose key counts,as they are gathered. -/
def Zfv(p:Int)(td ud:Bool)(nth:Int)(W:Nat):Bool:=if p=2 then td&& !ud else if p=3 then td&&decide (nth<(W:Int)) else false
def ZaD(cnt:Int->Bool)(txs:List HTx)(p:Int)(t:HTx)(o:HOp):Bool:=
 o.read&& !(o.tx==0)&& !(o.tx==t.id)&&cnt o.key&&Zfv p t.done (Zbr txs o.tx) o.nth (Zd (ZbV txs o.tx) o.key)
def Zan(P:HTx->HOp->Bool)(t:HTx)(i:Nat)(acc:Gp):Gu->List HBad
 |[]=>acc
 |o::l=>Zan P t (i+1) (if P t o then acc++[⟨t.id,i,Zw o⟩] else acc) l
def Zcf(P:HTx->HOp->Bool)(acc:Gp):List HTx->List HBad
 |[]=>acc
 |t::l=>Zcf P (Zan P t 0 acc t.ops) l
theorem ZkK(txs:List HTx)(p:Int)(t:HTx):∀(l:Gu) (i:Nat) (acc:Gp),Zan (ZaX txs · p ·) t i acc l=ZbI txs p t i acc l
 |[],_,_=>rfl
 |o::l,i,acc=>ZkK txs p t l (i+1) _
theorem ZkL(txs:List HTx)(p:Int):∀(l:List HTx) (acc:Gp),Zcf (ZaX txs · p ·) acc l=Zcw txs p acc l
 |[],_=>rfl
 |t::l,acc=>by
  show Zcf _ (Zan _ t 0 acc t.ops) l=Zcw txs p (ZbI txs p t 0 acc t.ops) l
  rw[ZkK,ZkL txs p l]
theorem Zjd{P Q:HTx->HOp->Bool}{t:HTx}:∀(l:Gu) (i:Nat) (acc:Gp),(∀o∈l,P t o=Q t o)->Zan P t i acc l=Zan Q t i acc l
 |[],_,_,_=>rfl
 |o::l,i,acc,h=>by
  show Zan P t (i+1) (if P t o then _ else acc) l=Zan Q t (i+1) (if Q t o then _ else acc) l
  rw[h o (Fc ..),Zjd l _ _ fun x hx=>h x (E7 _ hx)]
theorem Zje{P Q:HTx->HOp->Bool}:∀(l:List HTx) (acc:Gp),(∀t∈l,∀o∈t.ops,P t o=Q t o)->Zcf P acc l=Zcf Q acc l
 |[],_,_=>rfl
 |t::l,acc,h=>by
  show Zcf P (Zan P t 0 acc t.ops) l=Zcf Q (Zan Q t 0 acc t.ops) l
  rw[Zjd _ _ _ (h t (Fc ..)),Zje l _ fun x hx=>h x (E7 _ hx)]
theorem ZhI(cnt:Int->Bool)(P:HTx->HOp->Bool)(t:HTx)(hP:∀o,P t o=true->o.read=true):∀(l:Gu) (i:Nat) (acc:Gp),
  Zan (fun t o=>cnt o.key&&P t o) t i (acc.filter fun b=>cnt b.of.key) l=(Zan P t i acc l).filter fun b=>cnt b.of.key
 |[],_,_=>rfl
 |o::l,i,acc=>by
  show Zan _ t (i+1) (if (cnt o.key&&P t o)=true then _ else _) l=List.filter _ (Zan P t (i+1) (if P t o=true then acc++[⟨t.id,i,Zw o⟩] else acc) l)
  rw[<-ZhI cnt P t hP l]
  congr 1
  by_cases h:P t o=true
  ·have hr:=hP o h;have hk:(Zw o).key=o.key:=by unfold Zw;rw[if_pos hr]
   rw[h,Bool.and_true,if_pos rfl,List.filter_append]
   by_cases hc:cnt o.key=true
   ·rw[if_pos hc,List.filter_cons_of_pos (by simpa[hk]using hc)];rfl
   ·rw[if_neg hc,List.filter_cons_of_neg (by simpa[hk]using hc)];simp
  ·rw[if_neg h,if_neg (by simp[h])]
theorem ZhJ(cnt:Int->Bool)(P:HTx->HOp->Bool)(hP:∀t o,P t o=true->o.read=true):∀(l:List HTx) (acc:Gp),
  Zcf (fun t o=>cnt o.key&&P t o) (acc.filter fun b=>cnt b.of.key) l=(Zcf P acc l).filter fun b=>cnt b.of.key
 |[],_=>rfl
 |t::l,acc=>by
  show Zcf _ (Zan _ t 0 (acc.filter fun b=>cnt b.of.key) t.ops) l=List.filter _ (Zcf P (Zan P t 0 acc t.ops) l)
  rw[ZhI cnt P t (hP t),ZhJ cnt P hP l]
def Zf7(cnt:Int->Bool)(h:Hist)(p:Int):Gp:=if Zc h=true then Zcf (ZaD cnt h.txs p) [] h.txs else []
section
variable {h:Hist}
theorem Zto(hr:Zc h=true)(cnt:Int->Bool)(p:Int){t:HTx}(ht:t∈h.txs){o:HOp}(ho:o∈t.ops):ZaD cnt h.txs p t o=(cnt o.key&&ZaX h.txs t p o):=by
 unfold ZaD ZaX
 cases h1:o.read
 ·simp
 by_cases h3:o.tx=0
 ·simp[h3]
 by_cases h2:o.tx=t.id
 ·simp[h2]
 obtain⟨u,hu⟩:=ZmN hr ht ho h1 h3 h2;unfold Zbr ZbV Zfv;rw[hu];simp only;have e1:(o.tx==0)=false:=by simpa using h3
 have e2:(o.tx==t.id)=false:=by simpa using h2
 rw[e1,e2];have e3:(p==3)=decide (p=3):=by by_cases h:p=3<;>simp[h]
 rw[e3]
 cases t.done<;>cases cnt o.key<;>simp
theorem Ztn(cnt:Int->Bool)(p:Int):Zf7 cnt h p=(Zab h p).filter fun b=>cnt b.of.key:=by
 unfold Zf7 Zab
 split
 ·rename_i hr
  rw[Zje (Q:=fun t o=>cnt o.key&&ZaX h.txs t p o) _ _ fun t ht o ho=>Zto hr cnt p ht ho];rw[<-ZkL];exact ZhJ cnt (ZaX h.txs · p ·) (fun t o hb=>by unfold ZaX at hb;simp only[Fp]at hb;exact hb.1.1.1.2) h.txs []
 ·rfl
theorem ZrN(p:Int):Zf7 (fun _=>true) h p=Zab h p:=by
 rw[Ztn];exact List.filter_eq_self.2 fun _ _=>rfl
end
/-! the transactions by their ids -/
def HTx.val(t:HTx):Gz:= .agg #[Qi t.id,.bool t.done,.slice t.A t.ops.length t.c]
def ByM(m:List (Int×Gz))(txs:List HTx):Prop:=∀i,Zac m i=(Zh txs i).map HTx.val
theorem Zmj(a b:List HTx)(i:Int):Zh (a++b) i=(Zh a i).or (Zh b i):=by
 unfold Zh;rw[List.find?_append]
theorem ByM.put{m:List (Int×Gz)}{txs:List HTx}(h:ByM m txs)(x:HTx)(hn:Zh txs x.id=none):ByM (ZL m x.id x.val) (txs++[x]):=fun i=>by
 rw[Zdj,Zmj]
 by_cases e:i=x.id
 ·subst e;rw[if_pos rfl,hn];unfold Zh;simp
 ·rw[if_neg e,h i]
  have:Zh [x] i=none:=by
   unfold Zh;rw[List.find?_cons_of_neg (by simpa using fun e2:x.id=i=>e e2.symm)];rfl
  rw[this,Option.or_none]
theorem Zoj{txs:List HTx}(hn:(txs.map (·.id)).Nodup){k:Nat}(hk:k<txs.length):Zh (txs.take k) txs[k].id=none:=by
 unfold Zh;rw[List.find?_eq_none];intro x hx;obtain⟨j,hj,rfl⟩:=E8.1 hx;rw[Fl]at hj;rw[List.getElem_take];rw[List.nodup_iff_pairwise_ne,List.pairwise_map]at hn;have:=List.pairwise_iff_getElem.1 hn j k (by omega) hk (by omega)
 simpa using this
theorem Zqb(P:HTx->HOp->Bool)(t:HTx)(i:Nat)(acc:Gp)(o:HOp)(l:Gu):Zan P t i acc (o::l)=Zan P t (i+1) (if P t o then acc++[⟨t.id,i,Zw o⟩] else acc) l:=rfl
theorem Zqc(P:HTx->HOp->Bool)(acc:Gp)(t:HTx)(l:List HTx):Zcf P acc (t::l)=Zcf P (Zan P t 0 acc t.ops) l:=rfl
/- Reads that may not be:what one is,and the closures. -/
theorem Zun(F:Gt)(w:Gy)(ti:Int)(td:Bool)(tA:OA)(tn tc:Nat)(ui:Int)(ud:Bool)(uA:OA)(uc:Nat)(uo:Gu)(yr:Bool)(yk yt yn p:Int)(h:HOps F w uA uo)(hl:Zp uo.length){v:Bool}(hv:Zfv p td ud yn (Zd uo yk)=v):
  CN 103 #[.agg #[Qi ti,.bool td,.slice tA tn tc],.agg #[Qi ui,.bool ud,.slice uA uo.length uc],.agg #[.bool yr,Qi yk,Qi yt,Qi yn],Qi p] w (.bool v):=by
 obtain⟨z,hz⟩:=Qe w.heap.size;obtain⟨w1,au⟩:=Qe (w.alloc (.cells #[Qi ti,.bool td,.slice tA tn tc] 53));have s1:w1.heap.size=z+1:=by rw[<-au,<-hz];simp
 obtain⟨w2,cH⟩:=Qe (w1.alloc (.cells #[Qi ui,.bool ud,.slice uA uo.length uc] 53));have s2:w2.heap.size=z+1+1:=by rw[<-cH,<-s1];simp
 obtain⟨wb,ah⟩:=Qe (w2.alloc (.cells #[.bool yr,Qi yk,Qi yt,Qi yn] 50));have u1:Upd No w w1:=by rw[<-au];exact(Gg No w).alloc _
 have u2:Upd No w1 w2:=by rw[<-cH];exact(Gg No w1).alloc _
 have u3:Upd No w2 wb:=by rw[<-ah];exact(Gg No w2).alloc _
 have b1:Blk w1 z 53 [Qi ti,.bool td,.slice tA tn tc]:=by rw[<-au,<-hz];exact Gh w _ _
 have b2:Blk w2 (z+1) 53 [Qi ui,.bool ud,.slice uA uo.length uc]:=by rw[<-cH,<-s1];exact Gh w1 _ _
 have b3:Blk wb (z+1+1) 50 [.bool yr,Qi yk,Qi yt,Qi yn]:=by rw[<-ah,<-s2];exact Gh w2 _ _
 have c1:=b1.ew (u2.trans u3) 1 rfl
 have d0:=b2.ew u3 0 rfl
 have d1:=b2.ew u3 1 rfl
 have d2:=b2.ew u3 2 rfl
 have e1:=b3.ev 1 rfl
 have e3:=b3.ev 3 rfl
 have hr:Upd No wb wb:=Gg _ _;have hu:=(u1.trans u2).trans u3;have U0:=Qh hu;have HW:=Qh (fun W (u:Upd No wb W)=>ZjE F W ui ud uA uc uo yk (h.upd (hu.trans u) Qo) hl);have HV:=Qh hv;clear u1 u2 u3 b1 b2 b3 hu hv h
 by_cases p2:p=2
 ·subst p2;have HV:Hid (v=(td&& !ud)):=Qh HV.out.symm;go_enter Tryz.func103,Tryz.ntmps103
  cases td
  ·go_wp2;go_ret;exact⟨by have:=HV.out;subst this;rfl,U0.out⟩
  ·cases ud
   ·go_wp2;go_ret;exact⟨by have:=HV.out;subst this;rfl,U0.out⟩
   ·go_wp2;go_ret;exact⟨by have:=HV.out;subst this;rfl,U0.out⟩
 ·by_cases p3:p=3
  ·subst p3;have HV:Hid (v=(td&&decide (yn<(Zd uo yk:Int)))):=Qh HV.out.symm;go_enter Tryz.func103,Tryz.ntmps103
   cases td
   ·go_wp2;refine wpS (fun W'=>Upd No wb W') ?_ fun jH=>?_
    ·(first|exact hr.drew|exact jH)
    (iterate 8 refine wpF ?_);refine wpZ 8 rfl fun K hK=>?_;go_simp;refine hK.out _ _ ?_ fun jH=>?_
    ·exact jH
    try simp only[Qa]
    (iterate 3 refine wpF ?_);refine wpD (Gd ?_);have HH:=Qh jH;go_wp2;go_ret;exact⟨by have:=HV.out;subst this;rfl,U0.out.trans HH.out⟩
   ·obtain⟨n,hn⟩:=Qe (Zd uo yk);rw[hn]at HW HV;clear hn;go_wp2;refine wpS (fun W'=>Upd No wb W') ?_ fun jH=>?_
    ·(first|exact hr.drew|exact jH.trans aI|exact jH)
    (iterate 8 refine wpF ?_);refine wpZ 8 rfl fun K hK=>?_;go_simp
    (first
  |(go_at_call 134;refine Calls.mono (HW.out _ jH) ?_;rintro r w9 ⟨rfl,aI⟩))
    try (go_wp2_with fail)
    refine hK.out _ _ ?_ fun jH=>?_
    ·(first|exact hr.drew|exact jH.trans aI|exact jH)
    try simp only[Qa]
    (iterate 3 refine wpF ?_);refine wpD (Gd ?_);have HH:=Qh jH;go_wp2;go_ret;exact⟨by have:=HV.out;subst this;rfl,U0.out.trans HH.out⟩
  ·have q2:(p==2)=false:=by simpa using p2
   have q3:(p==3)=false:=by simpa using p3
   have HV:=Qh (show v=false by rw[<-HV.out];unfold Zfv;rw[if_neg p2,if_neg p3]);clear p2 p3;go_enter Tryz.func103,Tryz.ntmps103;go_wp2;go_ret;exact⟨by have:=HV.out;subst this;rfl,U0.out⟩
theorem Zwi(w:Gy)(key:Int):CN 65 #[Qi key] w (.bool true):=by
 go_enter Tryz.func65,Tryz.ntmps65;go_wp2;go_ret;exact⟨rfl,Gg _ _⟩
theorem ZsG(w:Gy):(zeroValue 53).run Tryz.prog w= .ok (.agg #[Qi 0,.bool false,.slice none 0 0]) w:=by kernel_rfl
theorem ZuJ{F:Gt}{w:Gy}{txs:List HTx}{m:List (Int×Gz)}(h:ByM m txs)(ht:∀t∈txs,HOps F w t.A t.ops∧Zp t.ops.length)(i:Int):
  ∃ui uA uc,(Zac m i).getD (.agg #[Qi 0,.bool false,.slice none 0 0])= .agg #[Qi ui,.bool (Zbr txs i),.slice uA (ZbV txs i).length uc]∧HOps F w uA (ZbV txs i)∧Zp (ZbV txs i).length:=by
 rw[h i];unfold Zbr ZbV
 cases hf:Zh txs i with
 |none=>exact⟨0,none,0,rfl,fun h=>absurd rfl h,by unfold Zp;simp⟩
 |some t=>
  have:=ht t (Ze6 hf);exact⟨t.id,t.A,t.c,rfl,this.1,this.2⟩
/- Reads that may not be:all of a history. -/
theorem Ztm(F:Gt)(w:Gy)(txs:List HTx)(ords:Gq)(A:OA)(c:Nat)(B:OA)(d:Nat)(cnt:Int->Bool)(p:Int)(H:Hist.lies F w ⟨txs,ords,A,c,B,d⟩)
  (hc:Hid (∀W key,Upd No w W->CN 65 #[Qi key] W (.bool (cnt key)))):
  Calls Tryz.prog 64 #[.agg #[.slice A txs.length c,.slice B ords.length d],Qi p,.func (.func 65) #[] #[]] w (ZjW w (Zf7 cnt ⟨txs,ords,A,c,B,d⟩ p)):=by
 have e8:= @run_makeMap Tryz.prog;have u0:=(Gg No w).alloc (.cells #[.slice A txs.length c,.slice B ords.length d] 29);have bH:=Qh (Gh w 29 [.slice A txs.length c,.slice B ords.length d]);obtain⟨b,hb⟩:=Qe (Zc ⟨txs,ords,A,c,B,d⟩);have HR:=Qh (Ztg (H.upd u0 Qo) hb);have U0:=Qh u0;clear u0
 cases b
 ·have HV:=Qh (show([]:Gp)=Zf7 cnt ⟨txs,ords,A,c,B,d⟩ p by unfold Zf7;rw[if_neg (by rw[hb];decide)]);clear hb;go_enter Tryz.func64,Tryz.ntmps64;go_wp2_with fail;refine Ck HR.out fun w1 hu1=>?_;have HU:=Qh (U0.out.trans hu1);go_wp2;go_ret;exact⟨none,0,by rw[<-HV.out];rfl,by rw[<-HV.out];exact Gf _ _ _ _,HU.out⟩
 ·have HV:=Qh (show Zcf (ZaD cnt txs p) [] txs=Zf7 cnt ⟨txs,ords,A,c,B,d⟩ p by unfold Zf7;rw[if_pos hb])
  have hmany:txs.length<=4096:=by
   unfold Zc at hb;simp only[Fp,Ff]at hb;exact hb.1.1.1
  have hlen:=Qh (show∀t∈txs,t.ops.length<=4095 from fun t ht=>ZeV (ZbJ hb ht).1);have Dj:=Qh (show(txs.map (·.id)).Nodup from Zfd hb);have DH:=Qh (fun(W:Gy) (u:Upd No w W)=>(show∀t∈txs,HOps F W t.A t.ops∧Zp t.ops.length from fun t ht=>⟨HOps.upd (H.tx t ht).1 u Qo,(H.tx t ht).2.2.1⟩));clear hb;go_enter Tryz.func64,Tryz.ntmps64;go_wp2_with fail;refine Ck HR.out fun w1 hu1=>?_;have gL:=Qh (U0.out.trans hu1);have BH:=Qh (bH.out.upd hu1 id);obtain⟨wb,ah⟩:=Qe (w1.alloc (.map #[] 0));have ub:Upd No w1 wb:=by rw[<-ah];exact(Gg No w1).alloc _
  have iN:Hid (MapIs wb w1.heap.size (fun n:Int=>Value.int .i64 n) []):=Qh (by rw[<-ah];exact MapIs.new w1 _);have HU:=Qh (gL.out.trans ub);have As:=BH.out.lt;have Cv:=gL.out.size;have BHb:=Qh (BH.out.upd ub id);obtain⟨bm,hbm⟩:=Qe w1.heap.size;have g0:∀W,Upd (One bm) wb W->W.cell? ⟨w.heap.size,0,none⟩=some (.slice A txs.length c):=fun W u=>by have:=(BHb.out.upd u (by unfold One;omega)).cell 0;simpa using this
  have hbz:Upd (One bm) wb wb:=Gg _ _;have gr:∀i,One bm i->w.heap.size<=i:=fun i e=>by unfold One at e;omega
  rw[hbm]at iN;have fM:=Qh gr;have DP:=Qh (show¬One bm w.heap.size from fun e=>by unfold One at e;omega);clear hu1 ub gr;go_wp2;clear e8 ah hbm Cv As
  go_loopg [23] txs.length (fun gk i wr=>∃(k:Nat) (m:List (Int×Gz)),k+gk=txs.length∧i= Qi k∧Hid (MapIs wr bm (fun n:Int=>Value.int .i64 n) m∧ByM m (txs.take k))∧Upd (One bm) wb wr)
  case atStart=>exact⟨0,[],by omega,rfl,Qh ⟨iN.out,fun i=>rfl⟩,hbz⟩
  case round=>
   obtain⟨k,m,aK,rfl,hm,hu1⟩:=hrel;have hu:=HU.out.then_ hu1 (fun i e=>Or.inr (fM.out i e))
   by_cases hlt:k<txs.length
   ·obtain⟨ad,aA,q0,q1,q2⟩:=(H.upd hu Qo).tx_at hlt;simp only at aA q0 q1 q2;have ms:=Zoj Dj.out hlt;obtain⟨x,hx⟩:=Qe (txs[k]);have bQ:txs.take (k+1)=txs.take k++[x]:=by rw[Es hlt,hx]
    rw[hx]at q0 q1 q2 ms;obtain⟨xi,xd,xo,xA,xc⟩:=x;simp only at q0 q1 q2 ms;subst aA;have uD:=Qh (show ByM (ZL m xi (.agg #[Qi xi,.bool xd,.slice xA xo.length xc])) (txs.take (k+1)) by rw[bQ];exact hm.out.2.put ⟨xi,xd,xo,xA,xc⟩ ms);have b1:(0:Int)<=(k:Int):=Qn _;have b2:(k:Int)<(txs.length:Int):=by omega
    obtain⟨wx,aJ⟩:=Qe (wr.alloc (.cells #[Qi xi,.bool xd,.slice xA xo.length xc] 53));have ux:Upd No wr wx:=by rw[<-aJ];exact(Gg No wr).alloc _
    have bo:Blk wx wr.heap.size 53 [Qi xi,.bool xd,.slice xA xo.length xc]:=by rw[<-aJ];exact Gh wr _ _
    obtain⟨t0,t1,t2⟩:=bo.c3;have uQ:=hm.out.1.upd ux id;have aX:=Qh (hu1.trans (ux.mono (fun _ _ e=>e.elim)));clear hx bQ ms bo ux hu;go_wp2_with (at_mapUpdate;refine ZpU rfl rfl ZeI Tryz.underlying165 (a:=xi) (val:= .agg #[Qi xi,.bool xd,.slice xA xo.length xc]) (by rfl) (by rfl) (by rfl) uQ ?_;intro w5 iA hu5);go_roundg (gk-1);exact⟨k+1,_,by omega,by go_num,Qh ⟨iA,uD.out⟩,aX.out.trans hu5⟩;omega
   ·obtain rfl:k=txs.length:=by omega
    have HM:Hid (MapIs wr bm (fun n:Int=>Value.int .i64 n) m):=Qh hm.out.1;have HB:=Qh (show ByM m txs by have:=hm.out.2;rwa [Fj]at this);obtain⟨wm,zY⟩:∃wm,wm=wr:=⟨_,rfl⟩;subst zY;have vp:=Qh hu;have pu:=hu.size;have cf:=HM.out.lt;have BM:=Qh (BHb.out.upd hu1 DP.out);have g00:=g0 _ hu1;clear hm g0 hbz hu hu1 iN HU gL;generalize gk=GK at*;go_wp2;clear g00
    go_loopg [7,35] txs.length (fun gk s i wr=>∃(k:Nat) (A3:OA) (c3:Nat) (xs:Gp),k+gk=txs.length∧i= Qi k∧s= .slice A3 xs.length c3∧Hid (Zcf (ZaD cnt txs p) xs (txs.drop k)=Zcf (ZaD cnt txs p) [] txs)∧xs.length<=4095*k∧
     Hid (wr.ownsRow wm.heap.size 38 5 (.slice A3 xs.length c3) xs.length (xs.map HBad.cells).flatten)∧Upd No wm wr)
    case atStart=>exact⟨0,none,0,[],by omega,rfl,rfl,Qh rfl,by simp,Qh (Gf _ _ _ _),Gg _ _⟩
    case round=>
     obtain⟨k,A3,c3,xs,aK,rfl,rfl,hs,hxl,ae,hu1⟩:=hrel
     by_cases hlt:k<txs.length
     ·have hu:=vp.out.trans hu1;obtain⟨ad,aA,q0,q1,q2⟩:=(H.upd hu Qo).tx_at hlt;have aM:=H.tx txs[k] (Fr hlt);simp only at aA q0 q1 q2;obtain⟨x,hx⟩:=Qe (txs[k]);rw[hx]at q0 q1 q2 aM;obtain⟨xi,xd,xo,xA,xc⟩:=x;simp only at q0 q1 q2;subst aA;have X:=Qh (show txs.drop k=⟨xi,xd,xo,xA,xc⟩::txs.drop (k+1) by rw[<-hx];exact Ev hlt);have HL:=Qh aM;have kD:=hlen.out _ (show(⟨xi,xd,xo,xA,xc⟩:HTx)∈txs by rw[<-hx];exact Fr hlt);simp only at kD;have b1:(0:Int)<=(k:Int):=Qn _;have b2:(k:Int)<(txs.length:Int):=by omega
      have ag:=hs.out;rw[X.out,Zqc]at ag;have aD:=Qh ag;obtain⟨wx,aJ⟩:=Qe (wr.alloc (.cells #[Qi xi,.bool xd,.slice xA xo.length xc] 53));have ux:Upd No wr wx:=by rw[<-aJ];exact(Gg No wr).alloc _
      have BT:Hid (Blk wx wr.heap.size 53 [Qi xi,.bool xd,.slice xA xo.length xc]):=Qh (by rw[<-aJ];exact Gh wr _ _);have UA:=Qh (hu1.trans ux);have HO:=Qh (Za ae.out ux Qo);have vS:=hu1.size;have C7:=Qh (show wx.heap.size=wr.heap.size+1 by rw[<-aJ];simp);have ik:=Qh (fun i e=>ae.out.lt i e);obtain⟨S,hS⟩:∃S,S=Own (.slice A3 xs.length c3):=⟨_,rfl⟩;have vB:=Qh (show∀i,Own (.slice A3 xs.length c3) i->S i by rw[hS];exact fun _=>id);have uG:=Qh (show∀i,S i->wm.heap.size<=i∧i<wr.heap.size by rw[hS];exact fun i e=>ik.out i e);clear hS ag hx aM ux hu;have dX:=Qh fun W (hW:Upd S wx W)=>(show Upd No wm W from UA.out.then_ hW fun i e=> .inr (uG.out i e).1)
      have fc:=Qh fun W (hW:Upd S wx W)=>vp.out.trans (dX.out W hW)
      have kW:¬S wr.heap.size:=fun e=>by have:=(uG.out _ e).2;omega
      have By:¬S bm:=fun e=>by have:=(uG.out _ e).1;omega
      have wH:=Qh fun W (hW:Upd S wx W) tx=>ZO ZeI Tryz.underlying165 ZsG ((HM.out.upd UA.out id).upd hW By) tx
      have t0:∀W,Upd S wx W->W.cell? ⟨wr.heap.size,0,none⟩=some (Qi xi):=fun W hW=>(BT.out.upd hW kW).cell 0
      have t1:∀W,Upd S wx W->W.cell? ⟨wr.heap.size,1,none⟩=some (.bool xd):=fun W hW=>(BT.out.upd hW kW).cell 1
      have t2:∀W,Upd S wx W->W.cell? ⟨wr.heap.size,2,none⟩=some (.slice xA xo.length xc):=fun W hW=>(BT.out.upd hW kW).cell 2
      have fT:Upd S wx wx:=Gg _ _;have mP:4095*k<=4095*4096:=Nat.mul_le_mul_left _ (by omega);clear UA BT;obtain⟨wo,dR⟩:∃wo,wo=wr:=⟨_,rfl⟩;subst dR;generalize gk=m0 at*;go_wp2
      go_loopg [7,42] xo.length (fun gm s i wr=>∃(j:Nat) (A4:OA) (c4:Nat) (ys:Gp),j+gm=xo.length∧i= Qi j∧s= .slice A4 ys.length c4∧Hid (Zan (ZaD cnt txs p) ⟨xi,xd,xo,xA,xc⟩ j ys (xo.drop j)=Zan (ZaD cnt txs p) ⟨xi,xd,xo,xA,xc⟩ 0 xs xo)∧ys.length<=xs.length+j∧
       Hid (wr.ownsRow wm.heap.size 38 5 (.slice A4 ys.length c4) ys.length (ys.map HBad.cells).flatten)∧Hid (∀i,Own (.slice A4 ys.length c4) i->S i∨wo.heap.size+1<=i)∧Upd S wx wr)
      case atStart=>exact⟨0,A3,c3,xs,by omega,rfl,rfl,Qh rfl,by omega,HO,Qh (fun i e=> .inl (vB.out i e)),fT⟩
      case round=>
       obtain⟨j,A4,c4,ys,ph,rfl,rfl,er,fC,am,dh,hu2⟩:=hrel;clear fT
       by_cases hlt2:j<xo.length
       ·obtain⟨ad2,aT,q0,q1,q2,q3⟩:=(HOps.upd HL.out.1 (fc.out _ hu2) Qo).at_ hlt2;obtain⟨x,hx⟩:=Qe (xo[j]);rw[hx]at q0 q1 q2 q3;obtain⟨rd,ky,tx,nt⟩:=x;simp only at q0 q1 q2 q3;subst aT
        have ag:Zan (ZaD cnt txs p) ⟨xi,xd,xo,some ad2,xc⟩ (j+1) (if ZaD cnt txs p ⟨xi,xd,xo,some ad2,xc⟩ ⟨rd,ky,tx,nt⟩=true then ys++[⟨xi,(j:Int),Zw ⟨rd,ky,tx,nt⟩⟩] else ys) (xo.drop (j+1))=Zan (ZaD cnt txs p) ⟨xi,xd,xo,some ad2,xc⟩ 0 xs xo:=by
         have:=er.out;rw[show xo.drop j=⟨rd,ky,tx,nt⟩::xo.drop (j+1) by rw[<-hx];exact Ev hlt2,Zqb]at this;exact this
        have aZ:=Qh ag;have c1:(0:Int)<=(j:Int):=Qn _;have c2:(j:Int)<(xo.length:Int):=by omega
        obtain⟨wy,gt⟩:=Qe (wr.alloc (.cells #[.bool rd,Qi ky,Qi tx,Qi nt] 50));have uy:Upd No wr wy:=by rw[<-gt];exact(Gg No wr).alloc _
        have cG:Upd S wx wy:=hu2.noR uy;have bo:Blk wy wr.heap.size 50 [.bool rd,Qi ky,Qi tx,Qi nt]:=by rw[<-gt];exact Gh wr _ _
        have o0:=bo.ev 0 rfl
        have o1:=bo.ev 1 rfl
        have o2:=bo.ev 2 rfl
        have o3:=bo.ev 3 rfl
        have lY:Upd No wy wy:=Gg _ _;have BO:=Qh bo;have d7:=Qh (Za am.out uy Qo);have iu:=Qh (fun i e=>am.out.lt i e);have dB:=hu2.size;have Dx:=(dX.out _ hu2).size;have aV:=C7.out;have dZ:=Qh cG;clear ag hx bo uy er
        cases rd
        ·have HS:=Qh (show Zan (ZaD cnt txs p) ⟨xi,xd,xo,some ad2,xc⟩ (j+1) ys (xo.drop (j+1))=Zan (ZaD cnt txs p) ⟨xi,xd,xo,some ad2,xc⟩ 0 xs xo by have:=aZ.out;rwa [if_neg (by simp[ZaD])]at this);go_wp2;go_roundg (gk-1);exact⟨j+1,A4,c4,ys,by omega,by go_num,rfl,HS,by omega,d7,dh,dZ.out⟩;omega
        by_cases k0:tx=0
        ·subst k0;have HS:=Qh (show Zan (ZaD cnt txs p) ⟨xi,xd,xo,some ad2,xc⟩ (j+1) ys (xo.drop (j+1))=Zan (ZaD cnt txs p) ⟨xi,xd,xo,some ad2,xc⟩ 0 xs xo by have:=aZ.out;rwa [if_neg (by simp[ZaD])]at this);go_wp2;go_roundg (gk-1);exact⟨j+1,A4,c4,ys,by omega,by go_num,rfl,HS,by omega,d7,dh,dZ.out⟩;omega
        have f0:(tx==0)=false:=by simpa using k0
        by_cases ki:tx=xi
        ·subst ki;have HS:=Qh (show Zan (ZaD cnt txs p) ⟨tx,xd,xo,some ad2,xc⟩ (j+1) ys (xo.drop (j+1))=Zan (ZaD cnt txs p) ⟨tx,xd,xo,some ad2,xc⟩ 0 xs xo by have:=aZ.out;rwa [if_neg (by simp[ZaD])]at this);go_wp2;go_roundg (gk-1);exact⟨j+1,A4,c4,ys,by omega,by go_num,rfl,HS,by omega,d7,dh,dZ.out⟩;omega
        have f1:(tx==xi)=false:=by simpa using ki
        obtain⟨cv,iq⟩:=Qe (cnt ky);have CC:=Qh (show CN 65 #[Qi ky] wy (.bool cv) by rw[<-iq];exact hc.out wy ky (fc.out _ cG));have HK:=Qh (show∀jb,Zfv p xd (Zbr txs tx) nt (Zd (ZbV txs tx) ky)=jb->ZaD cnt txs p ⟨xi,xd,xo,some ad2,xc⟩ ⟨true,ky,tx,nt⟩=(cv&&jb) from fun jb hj=>by unfold ZaD;simp only;rw[f0,f1,iq,hj];rfl);clear iq k0 ki
        cases cv
        ·have HG:=Qh (HK.out _ rfl);simp only[Bool.false_and]at HG;have HS:=Qh (show Zan (ZaD cnt txs p) ⟨xi,xd,xo,some ad2,xc⟩ (j+1) ys (xo.drop (j+1))=Zan (ZaD cnt txs p) ⟨xi,xd,xo,some ad2,xc⟩ 0 xs xo by have:=aZ.out;rwa [HG.out,if_neg (by decide)]at this);go_wp2_with fail;refine Ck CC.out fun w3 hu3=>?_;have eY:=Qh (Za d7.out hu3 Qo);have bJ:=Qh (cG.noR hu3);go_wp2;go_roundg (gk-1);exact⟨j+1,A4,c4,ys,by omega,by go_num,rfl,HS,by omega,eY,dh,bJ.out⟩;omega
        ·go_wp2_with fail;refine Ck CC.out fun w3 hu3=>?_;have h3:Upd S wx w3:=cG.noR hu3;have fe:=fc.out _ h3;obtain⟨ui,uA,uc,bj,rt,bu⟩:=ZuJ HB.out (DH.out _ fe) tx;have e1:=wH.out w3 h3 tx;rw[bj]at e1;obtain⟨jb,vw⟩:=Qe (Zfv p xd (Zbr txs tx) nt (Zd (ZbV txs tx) ky));have HG:=Qh (HK.out _ vw);have CJ:=Qh (Zun F w3 xi xd (some ad2) xo.length xc ui (Zbr txs tx) uA uc (ZbV txs tx) true ky tx nt p rt bu vw);obtain⟨ub,pS⟩:=Qe (Zbr txs tx);obtain⟨un,dz⟩:=Qe ((ZbV txs tx).length);rw[pS,dz]at e1 CJ;clear bj rt bu vw pS dz fe;have eY:=Qh (Za d7.out hu3 Qo);change (Instr.lookup 165 (.map (some bm)) (Qi tx) false).run Tryz.prog w3= .ok (.agg #[Qi ui,.bool ub,.slice uA un uc]) w3 at e1;go_wp2_with fail;refine Ck CJ.out fun w4 hu4=>?_;have h4:Upd S wx w4:=h3.noR hu4;have kB:=Qh (Za eY.out hu4 Qo);have cN:=Qh h4;have kG:=Qh (BO.out.upd (hu3.trans hu4) id);have lg:=(hu3.trans hu4).size;have Em:wr.heap.size<wy.heap.size:=BO.out.lt
         cases jb
         ·have HS:=Qh (show Zan (ZaD cnt txs p) ⟨xi,xd,xo,some ad2,xc⟩ (j+1) ys (xo.drop (j+1))=Zan (ZaD cnt txs p) ⟨xi,xd,xo,some ad2,xc⟩ 0 xs xo by have:=aZ.out;rwa [HG.out,if_neg (by decide)]at this);go_wp2;go_roundg (gk-1);exact⟨j+1,A4,c4,ys,by omega,by go_num,rfl,HS,by omega,kB,dh,cN.out⟩;omega
         ·have HS:=Qh (show Zan (ZaD cnt txs p) ⟨xi,xd,xo,some ad2,xc⟩ (j+1) (ys++[⟨xi,(j:Int),⟨tx,ky,nt⟩⟩]) (xo.drop (j+1))=Zan (ZaD cnt txs p) ⟨xi,xd,xo,some ad2,xc⟩ 0 xs xo by have:=aZ.out;rwa [HG.out,if_pos (by decide)]at this);have kH:¬Own (.slice A4 ys.length c4) wr.heap.size:=fun e=>by have:=(iu.out _ e).2;omega
          have mX:¬Own (.slice A4 ys.length c4) wo.heap.size:=fun e=>by
           rcases dh.out _ e with e|e
           ·exact kW e
           ·omega
          have p0:∀W,Upd (Own (.slice A4 ys.length c4)) w4 W->W.cell? ⟨wr.heap.size,0,none⟩=some (.bool true):=fun W hW=>(kG.out.upd hW kH).cell 0
          have p1:∀W,Upd (Own (.slice A4 ys.length c4)) w4 W->W.cell? ⟨wr.heap.size,1,none⟩=some (Qi ky):=fun W hW=>(kG.out.upd hW kH).cell 1
          have p2:∀W,Upd (Own (.slice A4 ys.length c4)) w4 W->W.cell? ⟨wr.heap.size,2,none⟩=some (Qi tx):=fun W hW=>(kG.out.upd hW kH).cell 2
          have p3:∀W,Upd (Own (.slice A4 ys.length c4)) w4 W->W.cell? ⟨wr.heap.size,3,none⟩=some (Qi nt):=fun W hW=>(kG.out.upd hW kH).cell 3
          have s0:∀W,Upd (Own (.slice A4 ys.length c4)) w4 W->W.cell? ⟨wo.heap.size,0,none⟩=some (Qi xi):=fun W hW=>hW.keep (t0 _ cN.out) mX
          clear t0 t1 t2 o0 o1 o2 o3 cG lY h3 h4 hu3 hu4 e1;go_wp2;refine wpS (fun w'=>Upd (Own (.slice A4 ys.length c4)) w4 w') ?_ fun jH=>?_
          ·(first|exact(Gg _ _).drew|exact jH.noR hu5|exact jH.alloc _|exact de)
          (iterate 5 refine wpF ?_);refine wpZ 5 rfl fun K hK=>?_;go_simp
          (first
  |(go_at_call 104;refine Ck (Zwh _ ky tx nt) fun w5 hu5=>?_;have iB:=Za kB.out hu5.of_drew Qo;have x9:=hu5.of_drew.size))
          try (go_wp2_with fail)
          refine hK.out _ _ ?_ fun jH=>?_
          ·(first|exact(Gg _ _).drew|exact jH.noR hu5|exact jH.alloc _|exact de)
          try simp only[Qa]
          refine wpK 6 rfl ?_;refine wpZ 7 rfl fun K hK=>?_;go_simp;refine hK.out _ _ ?_ fun jH=>?_
          ·(first|exact(Gg _ _).drew|exact jH.noR hu5|exact jH.alloc _|exact de)
          try simp only[Qa]
          refine wpZ 8 rfl fun K hK=>?_
          (first
  |(refine ZeX (by rfl) (by rfl) Zls (v:= .slice A4 ys.length c4) (cells:=[Qi xi,Qi (j:Int),Qi tx,Qi ky,Qi nt]) (by rfl) (by rfl) (by exact iB.alloc _) rfl (by exact Zbn) (by rfl) (by omega) (by omega) (by simp;omega) ?_;intro g6 c6 w6 av hu6 dC dv;have de:Upd (Own (.slice A4 ys.length c4)) w4 w6:=jH.trans hu6))
          refine hK.out _ _ ?_ fun jH=>?_
          ·(first|exact(Gg _ _).drew|exact jH.noR hu5|exact jH.alloc _|exact de)
          try simp only[Qa]
          refine wpK 9 rfl ?_;refine wpD (Gd ?_)
          have eu:=Qh (cN.out.then_ jH fun i e=>by
           rcases dh.out i e with e|e
           ·exact .inl e
           ·exact .inr (by omega))
          have dr:=Qh (show∀i,Own (.slice (some ⟨g6,0,none⟩) (ys.length+1) c6) i->S i∨wo.heap.size+1<=i from fun i e=>by
           rcases dC with h|⟨k6,tD,hlk⟩
           ·exact dh.out i (h.symm.trans e)
           ·have e2:(some k6:Option Nat)=some i:=tD.symm.trans e
            cases e2
            simp only[Ge]at hlk;exact .inr (by omega))
          clear jH p0 p1 p2 p3 s0 dC;go_wp2;go_roundg (gk-1);exact⟨j+1,some ⟨g6,0,none⟩,c6,ys++[⟨xi,(j:Int),⟨tx,ky,nt⟩⟩],by omega,by go_num,by simp,HS,by simp;omega,Qh (by simpa[HBad.cells]using av),Qh (by simpa using dr.out),eu.out⟩;omega
       ·obtain rfl:j=xo.length:=by omega
        have HS:=Qh (show Zcf (ZaD cnt txs p) ys (txs.drop (k+1))=Zcf (ZaD cnt txs p) [] txs by
         have:=er.out;rw[Fq]at this;rw[<-aD.out,<-this];rfl)
        go_wp2;go_roundg (m0-1);exact⟨k+1,A4,c4,ys,by omega,by go_num,rfl,HS,by omega,am,dX.out _ hu2⟩;omega
     ·obtain rfl:k=txs.length:=by omega
      have HS:=Qh (show xs=Zf7 cnt ⟨txs,ords,A,c,B,d⟩ p by rw[<-HV.out,<-hs.out,Fq];rfl);go_wp2;go_ret;exact⟨A3,c3,by rw[<-HS.out];rfl,by rw[<-HS.out];exact Zz ae.out pu,vp.out.trans hu1⟩
/- Reads that may not be:all of a history,those of a key;which one is ahead. -/
theorem oOf(F:Gt)(w:Gy)(txs:List HTx)(ords:Gq)(A:OA)(c:Nat)(B:OA)(d:Nat)(p:Int)(H:Hist.lies F w ⟨txs,ords,A,c,B,d⟩):
  Calls Tryz.prog 41 #[.agg #[.slice A txs.length c,.slice B ords.length d],Qi p] w (ZjW w (Zab ⟨txs,ords,A,c,B,d⟩ p)):=by
 obtain⟨wb,ah⟩:=Qe (w.alloc (.cells #[.slice A txs.length c,.slice B ords.length d] 29));have u0:Upd No w wb:=by rw[<-ah];exact(Gg No w).alloc _
 have bH:Blk wb w.heap.size 29 [.slice A txs.length c,.slice B ords.length d]:=by rw[<-ah];exact Gh w _ _
 obtain⟨g0,g1⟩:=bH.c2;have HG:=Qh (Ztm F wb txs ords A c B d (fun _=>true) p (H.upd u0 Qo) (Qh fun W key _=>Zwi W key));rw[ZrN]at HG;have U0:=Qh u0;clear bH u0;go_enter Tryz.func41,Tryz.ntmps41;go_wp2_with fail;refine(HG.out).mono ?_;rintro e w1 ⟨A1,c1,rfl,ho,hu⟩;go_wp2;go_ret;exact⟨A1,c1,rfl,Zz ho U0.out.size,U0.out.trans hu⟩
/-! which one is ahead -/
/- Edges of a history:what the law on reasons asks,the plain part. -/
section
variable {h:Hist}
theorem Zqd:(ZB h).Pairwise fun a b=>a.e≠b.e:=by
 have:=Zgt (h:=h);rw[List.pairwise_map]at this;refine this.imp fun {a b} hab e=>?_
 rw[e]at hab;unfold ltE at hab;simp at hab
theorem ZlD(hr:Zc h=true){o:HOrd}(ho:o∈h.ords):o.txs≠[]:=by
 obtain⟨j,hj,rfl⟩:=E8.1 ho;exact((ZeE hj).1 (Zfc hr hj)).2.1
end
