/- Edges of a history: the law that the edges are those of all keys. -/
import Derived.Test.YtadmgiljchgccaaGreatTcba
import Derived.Test.YtadmgiljchgccaaGreatTcbm
namespace Go.Proofs.YtadmgiljchgccaaGreat
open Go.RowKit
set_option linter.unusedVariables false
set_option linter.unusedSimpArgs false
set_option maxRecDepth 100000
set_option maxHeartbeats 8000000
theorem ZmK{h:Hist}{x:Hvy}(hx:x∈ZB h):Zb h=true:=by
 cases hr:Zb h with
 |true=>rfl
 |false=>unfold ZB at hx;rw[if_neg (by rw[hr];decide)]at hx;cases hx
/- Edges of a history:what the law on reasons asks,the plain part. -/
section
variable {h:Hist}
theorem Zrl:(ZB h).Pairwise fun a b=>a.e≠b.e:=by
 have:=Zgy (h:=h);rw[List.pairwise_map]at this;refine this.imp fun {a b} hab e=>?_
 rw[e]at hab;unfold ltE at hab;simp at hab
theorem ZlQ(hr:Zb h=true){o:HOrd}(ho:o∈h.ords):o.txs≠[]:=by
 obtain⟨j,hj,rfl⟩:=Gl.1 ho;exact((ZhV hj).1 (Zfk hr hj)).2.1
end
/- Reads that may not be,plain:those whose key counts,as they are gathered. -/
def ZfF(p:Int)(td ud:Bool)(nth:Int)(W:Nat):Bool:=if p=2 then td&& !ud else if p=3 then td&&decide (nth<(W:Int)) else false
def ZaE(cnt:Int->Bool)(txs:List HTx)(p:Int)(t:HTx)(o:HOp):Bool:=
 o.read&& !(o.tx==0)&& !(o.tx==t.id)&&cnt o.key&&ZfF p t.done (ZcM txs o.tx) o.nth (Z9 (Zcy txs o.tx) o.key)
def Zaj(P:HTx->HOp->Bool)(t:HTx)(i:Nat)(acc:Ir):Is->List HBad
 |[]=>acc
 |o::l=>Zaj P t (i+1) (if P t o then acc++[⟨t.id,i,Zk o⟩] else acc) l
def Zcb(P:HTx->HOp->Bool)(acc:Ir):List HTx->List HBad
 |[]=>acc
 |t::l=>Zcb P (Zaj P t 0 acc t.ops) l
theorem ZkT(txs:List HTx)(p:Int)(t:HTx):∀(l:Is) (i:Nat) (acc:Ir),Zaj (Zcp txs · p ·) t i acc l=Zce txs p t i acc l
 |[],_,_=>rfl
 |o::l,i,acc=>ZkT txs p t l (i+1) _
theorem ZkU(txs:List HTx)(p:Int):∀(l:List HTx) (acc:Ir),Zcb (Zcp txs · p ·) acc l=ZcY txs p acc l
 |[],_=>rfl
 |t::l,acc=>by
  show Zcb _ (Zaj _ t 0 acc t.ops) l=ZcY txs p (Zce txs p t 0 acc t.ops) l
  rw[ZkT,ZkU txs p l]
theorem Zjf{P Q:HTx->HOp->Bool}{t:HTx}:∀(l:Is) (i:Nat) (acc:Ir),(∀o∈l,P t o=Q t o)->Zaj P t i acc l=Zaj Q t i acc l
 |[],_,_,_=>rfl
 |o::l,i,acc,h=>by
  show Zaj P t (i+1) (if P t o then _ else acc) l=Zaj Q t (i+1) (if Q t o then _ else acc) l
  rw[h o (Gv ..),Zjf l _ _ fun x hx=>h x (Gk _ hx)]
theorem Zjg{P Q:HTx->HOp->Bool}:∀(l:List HTx) (acc:Ir),(∀t∈l,∀o∈t.ops,P t o=Q t o)->Zcb P acc l=Zcb Q acc l
 |[],_,_=>rfl
 |t::l,acc,h=>by
  show Zcb P (Zaj P t 0 acc t.ops) l=Zcb Q (Zaj Q t 0 acc t.ops) l
  rw[Zjf _ _ _ (h t (Gv ..)),Zjg l _ fun x hx=>h x (Gk _ hx)]
theorem ZhE(cnt:Int->Bool)(P:HTx->HOp->Bool)(t:HTx)(hP:∀o,P t o=true->o.read=true):∀(l:Is) (i:Nat) (acc:Ir),
  Zaj (fun t o=>cnt o.key&&P t o) t i (acc.filter fun b=>cnt b.of.key) l=(Zaj P t i acc l).filter fun b=>cnt b.of.key
 |[],_,_=>rfl
 |o::l,i,acc=>by
  show Zaj _ t (i+1) (if (cnt o.key&&P t o)=true then _ else _) l=List.filter _ (Zaj P t (i+1) (if P t o=true then acc++[⟨t.id,i,Zk o⟩] else acc) l)
  rw[<-ZhE cnt P t hP l]
  congr 1
  by_cases h:P t o=true
  ·have hr:=hP o h;have hk:(Zk o).key=o.key:=by unfold Zk;rw[if_pos hr]
   rw[h,Bool.and_true,if_pos rfl,List.filter_append]
   by_cases hc:cnt o.key=true
   ·rw[if_pos hc,List.filter_cons_of_pos (by simpa[hk]using hc)];rfl
   ·rw[if_neg hc,List.filter_cons_of_neg (by simpa[hk]using hc)];simp
  ·rw[if_neg h,if_neg (by simp[h])]
theorem ZhF(cnt:Int->Bool)(P:HTx->HOp->Bool)(hP:∀t o,P t o=true->o.read=true):∀(l:List HTx) (acc:Ir),
  Zcb (fun t o=>cnt o.key&&P t o) (acc.filter fun b=>cnt b.of.key) l=(Zcb P acc l).filter fun b=>cnt b.of.key
 |[],_=>rfl
 |t::l,acc=>by
  show Zcb _ (Zaj _ t 0 (acc.filter fun b=>cnt b.of.key) t.ops) l=List.filter _ (Zcb P (Zaj P t 0 acc t.ops) l)
  rw[ZhE cnt P t (hP t),ZhF cnt P hP l]
def Zgi(cnt:Int->Bool)(h:Hist)(p:Int):Ir:=if Zb h=true then Zcb (ZaE cnt h.txs p) [] h.txs else []
section
variable {h:Hist}
theorem Zvk(hr:Zb h=true)(cnt:Int->Bool)(p:Int){t:HTx}(ht:t∈h.txs){o:HOp}(ho:o∈t.ops):ZaE cnt h.txs p t o=(cnt o.key&&Zcp h.txs t p o):=by
 unfold ZaE Zcp
 cases h1:o.read
 ·simp
 by_cases h3:o.tx=0
 ·simp[h3]
 by_cases h2:o.tx=t.id
 ·simp[h2]
 obtain⟨u,hu⟩:=Zfj hr ht ho h1 h3 h2;unfold ZcM Zcy ZfF;rw[hu];simp only;have e1:(o.tx==0)=false:=by simpa using h3
 have e2:(o.tx==t.id)=false:=by simpa using h2
 rw[e1,e2];have e3:(p==3)=decide (p=3):=by by_cases h:p=3<;>simp[h]
 rw[e3]
 cases t.done<;>cases cnt o.key<;>simp
theorem Zvj(cnt:Int->Bool)(p:Int):Zgi cnt h p=(ZW h p).filter fun b=>cnt b.of.key:=by
 unfold Zgi ZW
 split
 ·rename_i hr
  rw[Zjg (Q:=fun t o=>cnt o.key&&Zcp h.txs t p o) _ _ fun t ht o ho=>Zvk hr cnt p ht ho];rw[<-ZkU];exact ZhF cnt (Zcp h.txs · p ·) (fun t o hb=>by unfold Zcp at hb;simp only[Hj]at hb;exact hb.1.1.1.2) h.txs []
 ·rfl
theorem Zte(p:Int):Zgi (fun _=>true) h p=ZW h p:=by
 rw[Zvj];exact List.filter_eq_self.2 fun _ _=>rfl
end
/-! the transactions by their ids -/
def HTx.val(t:HTx):Iz:= .agg #[Qi t.id,.bool t.done,.slice t.A t.ops.length t.c]
def ByM(m:List (Int×Iz))(txs:List HTx):Prop:=∀i,ZX m i=(Ze txs i).map HTx.val
theorem ZmH(a b:List HTx)(i:Int):Ze (a++b) i=(Ze a i).or (Ze b i):=by
 unfold Ze;rw[List.find?_append]
theorem ByM.put{m:List (Int×Iz)}{txs:List HTx}(h:ByM m txs)(x:HTx)(hn:Ze txs x.id=none):ByM (ZI m x.id x.val) (txs++[x]):=fun i=>by
 rw[Zdt,ZmH]
 by_cases e:i=x.id
 ·subst e;rw[if_pos rfl,hn];unfold Ze;simp
 ·rw[if_neg e,h i]
  have:Ze [x] i=none:=by
   unfold Ze;rw[List.find?_cons_of_neg (by simpa using fun e2:x.id=i=>e e2.symm)];rfl
  rw[this,Option.or_none]
theorem Zpa{txs:List HTx}(hn:(txs.map (·.id)).Nodup){k:Nat}(hk:k<txs.length):Ze (txs.take k) txs[k].id=none:=by
 unfold Ze;rw[Gs];intro x hx;obtain⟨j,hj,rfl⟩:=Gl.1 hx;rw[Hm]at hj;rw[List.getElem_take];rw[List.nodup_iff_pairwise_ne,List.pairwise_map]at hn;have:=List.pairwise_iff_getElem.1 hn j k (by omega) hk (by omega)
 simpa using this
theorem Zre(P:HTx->HOp->Bool)(t:HTx)(i:Nat)(acc:Ir)(o:HOp)(l:Is):Zaj P t i acc (o::l)=Zaj P t (i+1) (if P t o then acc++[⟨t.id,i,Zk o⟩] else acc) l:=rfl
theorem Zrf(P:HTx->HOp->Bool)(acc:Ir)(t:HTx)(l:List HTx):Zcb P acc (t::l)=Zcb P (Zaj P t 0 acc t.ops) l:=rfl
/- Reads that may not be:what one is,and the closures. -/
theorem Zv4(F:Iw)(w:I0)(ti:Int)(td:Bool)(tA:OA)(tn tc:Nat)(ui:Int)(ud:Bool)(uA:OA)(uc:Nat)(uo:Is)(yr:Bool)(yk yt yn p:Int)(h:HOps F w uA uo)(hl:Zt uo.length){v:Bool}(hv:ZfF p td ud yn (Z9 uo yk)=v):
  CN 123 #[.agg #[Qi ti,.bool td,.slice tA tn tc],.agg #[Qi ui,.bool ud,.slice uA uo.length uc],.agg #[.bool yr,Qi yk,Qi yt,Qi yn],Qi p] w (.bool v):=by
 obtain⟨z,hz⟩:=Qe w.heap.size;obtain⟨w1,ap⟩:=Qe (w.alloc (.cells #[Qi ti,.bool td,.slice tA tn tc] 39));have s1:w1.heap.size=z+1:=by rw[<-ap,<-hz];simp
 obtain⟨w2,bZ⟩:=Qe (w1.alloc (.cells #[Qi ui,.bool ud,.slice uA uo.length uc] 39));have s2:w2.heap.size=z+1+1:=by rw[<-bZ,<-s1];simp
 obtain⟨wb,ag⟩:=Qe (w2.alloc (.cells #[.bool yr,Qi yk,Qi yt,Qi yn] 66));have u1:Upd No w w1:=by rw[<-ap];exact(Il No w).alloc _
 have u2:Upd No w1 w2:=by rw[<-bZ];exact(Il No w1).alloc _
 have u3:Upd No w2 wb:=by rw[<-ag];exact(Il No w2).alloc _
 have b1:Blk w1 z 39 [Qi ti,.bool td,.slice tA tn tc]:=by rw[<-ap,<-hz];exact Im w _ _
 have b2:Blk w2 (z+1) 39 [Qi ui,.bool ud,.slice uA uo.length uc]:=by rw[<-bZ,<-s1];exact Im w1 _ _
 have b3:Blk wb (z+1+1) 66 [.bool yr,Qi yk,Qi yt,Qi yn]:=by rw[<-ag,<-s2];exact Im w2 _ _
 have c1:=b1.ew (u2.trans u3) 1 rfl
 have d0:=b2.ew u3 0 rfl
 have d1:=b2.ew u3 1 rfl
 have d2:=b2.ew u3 2 rfl
 have e1:=b3.ev 1 rfl
 have e3:=b3.ev 3 rfl
 have hr:Upd No wb wb:=Il _ _;have hu:=(u1.trans u2).trans u3;have U0:=Qh hu;have HW:=Qh (fun W (u:Upd No wb W)=>Zez F W ui ud uA uc uo yk (h.upd (hu.trans u) Qo) hl);have HV:=Qh hv;clear u1 u2 u3 b1 b2 b3 hu hv h
 by_cases p2:p=2
 ·subst p2;have HV:Hid (v=(td&& !ud)):=Qh HV.out.symm;go_enter Tryz.func123,Tryz.ntmps123
  cases td
  ·go_wp2;go_ret;exact⟨by have:=HV.out;subst this;rfl,U0.out⟩
  ·cases ud
   ·go_wp2;go_ret;exact⟨by have:=HV.out;subst this;rfl,U0.out⟩
   ·go_wp2;go_ret;exact⟨by have:=HV.out;subst this;rfl,U0.out⟩
 ·by_cases p3:p=3
  ·subst p3;have HV:Hid (v=(td&&decide (yn<(Z9 uo yk:Int)))):=Qh HV.out.symm;go_enter Tryz.func123,Tryz.ntmps123
   cases td
   ·go_wp2;refine wpS (fun W'=>Upd No wb W') ?_ fun jH=>?_
    ·(first|exact hr.drew|exact jH)
    (iterate 8 refine wpF ?_);refine wpZ 8 rfl fun K hK=>?_;go_simp;refine hK.out _ _ ?_ fun jH=>?_
    ·exact jH
    try simp only[Qa]
    (iterate 3 refine wpF ?_);refine wpD (Ii ?_);have HH:=Qh jH;go_wp2;go_ret;exact⟨by have:=HV.out;subst this;rfl,U0.out.trans HH.out⟩
   ·obtain⟨n,hn⟩:=Qe (Z9 uo yk);rw[hn]at HW HV;clear hn;go_wp2;refine wpS (fun W'=>Upd No wb W') ?_ fun jH=>?_
    ·(first|exact hr.drew|exact jH.trans aL|exact jH)
    (iterate 8 refine wpF ?_);refine wpZ 8 rfl fun K hK=>?_;go_simp
    (first
  |(go_at_call 102;refine Calls.mono (HW.out _ jH) ?_;rintro r w9 ⟨rfl,aL⟩))
    try (go_wp2_with fail)
    refine hK.out _ _ ?_ fun jH=>?_
    ·(first|exact hr.drew|exact jH.trans aL|exact jH)
    try simp only[Qa]
    (iterate 3 refine wpF ?_);refine wpD (Ii ?_);have HH:=Qh jH;go_wp2;go_ret;exact⟨by have:=HV.out;subst this;rfl,U0.out.trans HH.out⟩
  ·have q2:(p==2)=false:=by simpa using p2
   have q3:(p==3)=false:=by simpa using p3
   have HV:=Qh (show v=false by rw[<-HV.out];unfold ZfF;rw[if_neg p2,if_neg p3]);clear p2 p3;go_enter Tryz.func123,Tryz.ntmps123;go_wp2;go_ret;exact⟨by have:=HV.out;subst this;rfl,U0.out⟩
theorem Zyc(w:I0)(key:Int):CN 74 #[Qi key] w (.bool true):=by
 go_enter Tryz.func74,Tryz.ntmps74;go_wp2;go_ret;exact⟨rfl,Il _ _⟩
theorem Zuo(w:I0):(zeroValue 39).run Tryz.prog w= .ok (.agg #[Qi 0,.bool false,.slice none 0 0]) w:=by kernel_rfl
theorem ZwB{F:Iw}{w:I0}{txs:List HTx}{m:List (Int×Iz)}(h:ByM m txs)(ht:∀t∈txs,HOps F w t.A t.ops∧Zt t.ops.length)(i:Int):
  ∃ui uA uc,(ZX m i).getD (.agg #[Qi 0,.bool false,.slice none 0 0])= .agg #[Qi ui,.bool (ZcM txs i),.slice uA (Zcy txs i).length uc]∧HOps F w uA (Zcy txs i)∧Zt (Zcy txs i).length:=by
 rw[h i];unfold ZcM Zcy
 cases hf:Ze txs i with
 |none=>exact⟨0,none,0,rfl,fun h=>absurd rfl h,by unfold Zt;simp⟩
 |some t=>
  have:=ht t (Zdx hf);exact⟨t.id,t.A,t.c,rfl,this.1,this.2⟩
/- Reads that may not be:all of a history. -/
theorem Zvi(F:Iw)(w:I0)(txs:List HTx)(ords:List HOrd)(A:OA)(c:Nat)(B:OA)(d:Nat)(cnt:Int->Bool)(p:Int)(H:Hist.lies F w ⟨txs,ords,A,c,B,d⟩)
  (hc:Hid (∀W key,Upd No w W->CN 74 #[Qi key] W (.bool (cnt key)))):
  Calls Tryz.prog 73 #[.agg #[.slice A txs.length c,.slice B ords.length d],Qi p,.func (.func 74) #[] #[]] w (Zon w (Zgi cnt ⟨txs,ords,A,c,B,d⟩ p)):=by
 have eT:= @run_makeMap Tryz.prog;have u0:=(Il No w).alloc (.cells #[.slice A txs.length c,.slice B ords.length d] 25);have bH:=Qh (Im w 25 [.slice A txs.length c,.slice B ords.length d]);obtain⟨b,hb⟩:=Qe (Zb ⟨txs,ords,A,c,B,d⟩);have HR:=Qh (ZjW (H.upd u0 Qo) hb);have U0:=Qh u0;clear u0
 cases b
 ·have HV:=Qh (show([]:Ir)=Zgi cnt ⟨txs,ords,A,c,B,d⟩ p by unfold Zgi;rw[if_neg (by rw[hb];decide)]);clear hb;go_enter Tryz.func73,Tryz.ntmps73;go_wp2_with fail;refine Ck HR.out fun w1 hu1=>?_;have HU:=Qh (U0.out.trans hu1);go_wp2;go_ret;exact⟨none,0,by rw[<-HV.out];rfl,by rw[<-HV.out];exact Ik _ _ _ _,HU.out⟩
 ·have HV:=Qh (show Zcb (ZaE cnt txs p) [] txs=Zgi cnt ⟨txs,ords,A,c,B,d⟩ p by unfold Zgi;rw[if_pos hb])
  have hmany:txs.length<=4096:=by
   unfold Zb at hb;simp only[Hj,Gw]at hb;exact hb.1.1.1
  have au:=Qh (show∀t∈txs,t.ops.length<=4095 from fun t ht=>Zp0 (Zc6 hb ht).1);have yV:=Qh (show(txs.map (·.id)).Nodup from Zfl hb);have ex:=Qh (fun(W:I0) (u:Upd No w W)=>(show∀t∈txs,HOps F W t.A t.ops∧Zt t.ops.length from fun t ht=>⟨HOps.upd (H.tx t ht).1 u Qo,(H.tx t ht).2.2.1⟩));clear hb;go_enter Tryz.func73,Tryz.ntmps73;go_wp2_with fail;refine Ck HR.out fun w1 hu1=>?_;have fF:=Qh (U0.out.trans hu1);have BH:=Qh (bH.out.upd hu1 id);obtain⟨wb,ag⟩:=Qe (w1.alloc (.map #[] 0));have ub:Upd No w1 wb:=by rw[<-ag];exact(Il No w1).alloc _
  have iu:Hid (MapIs wb w1.heap.size (fun n:Int=>Value.int .i64 n) []):=Qh (by rw[<-ag];exact MapIs.new w1 _);have HU:=Qh (fF.out.trans ub);have yI:=BH.out.lt;have Fb:=fF.out.size;have BHb:=Qh (BH.out.upd ub id);obtain⟨bm,hbm⟩:=Qe w1.heap.size;have g0:∀W,Upd (One bm) wb W->W.cell? ⟨w.heap.size,0,none⟩=some (.slice A txs.length c):=fun W u=>by have:=(BHb.out.upd u (by unfold One;omega)).cell 0;simpa using this
  have hbz:Upd (One bm) wb wb:=Il _ _;have np:∀i,One bm i->w.heap.size<=i:=fun i e=>by unfold One at e;omega
  rw[hbm]at iu;have D8:=Qh np;have fJ:=Qh (show¬One bm w.heap.size from fun e=>by unfold One at e;omega);clear hu1 ub np;go_wp2;clear eT ag hbm Fb yI
  go_loopg [23] txs.length (fun gk i wr=>∃(k:Nat) (m:List (Int×Iz)),k+gk=txs.length∧i= Qi k∧Hid (MapIs wr bm (fun n:Int=>Value.int .i64 n) m∧ByM m (txs.take k))∧Upd (One bm) wb wr)
  case atStart=>exact⟨0,[],by omega,rfl,Qh ⟨iu.out,fun i=>rfl⟩,hbz⟩
  case round=>
   obtain⟨k,m,aI,rfl,hm,hu1⟩:=hrel;have hu:=HU.out.then_ hu1 (fun i e=>Or.inr (D8.out i e))
   by_cases hlt:k<txs.length
   ·obtain⟨ad,aH,q0,q1,q2⟩:=(H.upd hu Qo).tx_at hlt;simp only at aH q0 q1 q2;have iD:=Zpa yV.out hlt;obtain⟨x,hx⟩:=Qe (txs[k]);have bi:txs.take (k+1)=txs.take k++[x]:=by rw[Gb hlt,hx]
    rw[hx]at q0 q1 q2 iD;obtain⟨xi,xd,xo,xA,xc⟩:=x;simp only at q0 q1 q2 iD;subst aH;have uZ:=Qh (show ByM (ZI m xi (.agg #[Qi xi,.bool xd,.slice xA xo.length xc])) (txs.take (k+1)) by rw[bi];exact hm.out.2.put ⟨xi,xd,xo,xA,xc⟩ iD);have b1:(0:Int)<=(k:Int):=Qn _;have b2:(k:Int)<(txs.length:Int):=by omega
    obtain⟨wx,aJ⟩:=Qe (wr.alloc (.cells #[Qi xi,.bool xd,.slice xA xo.length xc] 39));have ux:Upd No wr wx:=by rw[<-aJ];exact(Il No wr).alloc _
    have bo:Blk wx wr.heap.size 39 [Qi xi,.bool xd,.slice xA xo.length xc]:=by rw[<-aJ];exact Im wr _ _
    obtain⟨t0,t1,t2⟩:=bo.c3;have DX:=hm.out.1.upd ux id;have a9:=Qh (hu1.trans (ux.mono (fun _ _ e=>e.elim)));clear hx bi iD bo ux hu;go_wp2_with (at_mapUpdate;refine Zmk rfl rfl ZdN Tryz.underlying152 (a:=xi) (val:= .agg #[Qi xi,.bool xd,.slice xA xo.length xc]) (by rfl) (by rfl) (by rfl) DX ?_;intro w5 fR hu5);go_roundg (gk-1);exact⟨k+1,_,by omega,by go_num,Qh ⟨fR,uZ.out⟩,a9.out.trans hu5⟩;omega
   ·obtain rfl:k=txs.length:=by omega
    have HM:Hid (MapIs wr bm (fun n:Int=>Value.int .i64 n) m):=Qh hm.out.1;have HB:=Qh (show ByM m txs by have:=hm.out.2;rwa [G7]at this);obtain⟨wm,uk⟩:∃wm,wm=wr:=⟨_,rfl⟩;subst uk;have vR:=Qh hu;have tG:=hu.size;have ft:=HM.out.lt;have BM:=Qh (BHb.out.upd hu1 fJ.out);have g00:=g0 _ hu1;clear hm g0 hbz hu hu1 iu HU fF;generalize gk=GK at*;go_wp2;clear g00
    go_loopg [7,35] txs.length (fun gk s i wr=>∃(k:Nat) (A3:OA) (c3:Nat) (xs:Ir),k+gk=txs.length∧i= Qi k∧s= .slice A3 xs.length c3∧Hid (Zcb (ZaE cnt txs p) xs (txs.drop k)=Zcb (ZaE cnt txs p) [] txs)∧xs.length<=4095*k∧
     Hid (wr.ownsRow wm.heap.size 51 5 (.slice A3 xs.length c3) xs.length (xs.map HBad.cells).flatten)∧Upd No wm wr)
    case atStart=>exact⟨0,none,0,[],by omega,rfl,rfl,Qh rfl,by simp,Qh (Ik _ _ _ _),Il _ _⟩
    case round=>
     obtain⟨k,A3,c3,xs,aI,rfl,rfl,hs,hxl,ae,hu1⟩:=hrel
     by_cases hlt:k<txs.length
     ·have hu:=vR.out.trans hu1;obtain⟨ad,aH,q0,q1,q2⟩:=(H.upd hu Qo).tx_at hlt;have aY:=H.tx txs[k] (Hg hlt);simp only at aH q0 q1 q2;obtain⟨x,hx⟩:=Qe (txs[k]);rw[hx]at q0 q1 q2 aY;obtain⟨xi,xd,xo,xA,xc⟩:=x;simp only at q0 q1 q2;subst aH;have X:=Qh (show txs.drop k=⟨xi,xd,xo,xA,xc⟩::txs.drop (k+1) by rw[<-hx];exact Ge hlt);have HL:=Qh aY;have sR:=au.out _ (show(⟨xi,xd,xo,xA,xc⟩:HTx)∈txs by rw[<-hx];exact Hg hlt);simp only at sR;have b1:(0:Int)<=(k:Int):=Qn _;have b2:(k:Int)<(txs.length:Int):=by omega
      have am:=hs.out;rw[X.out,Zrf]at am;have gI:=Qh am;obtain⟨wx,aJ⟩:=Qe (wr.alloc (.cells #[Qi xi,.bool xd,.slice xA xo.length xc] 39));have ux:Upd No wr wx:=by rw[<-aJ];exact(Il No wr).alloc _
      have BT:Hid (Blk wx wr.heap.size 39 [Qi xi,.bool xd,.slice xA xo.length xc]):=Qh (by rw[<-aJ];exact Im wr _ _);have UA:=Qh (hu1.trans ux);have HO:=Qh (Za ae.out ux Qo);have kv:=hu1.size;have C8:=Qh (show wx.heap.size=wr.heap.size+1 by rw[<-aJ];simp);have o5:=Qh (fun i e=>ae.out.lt i e);obtain⟨S,hS⟩:∃S,S=Own (.slice A3 xs.length c3):=⟨_,rfl⟩;have nr:=Qh (show∀i,Own (.slice A3 xs.length c3) i->S i by rw[hS];exact fun _=>id);have oR:=Qh (show∀i,S i->wm.heap.size<=i∧i<wr.heap.size by rw[hS];exact fun i e=>o5.out i e);clear hS am hx aY ux hu;have eP:=Qh fun W (hW:Upd S wx W)=>(show Upd No wm W from UA.out.then_ hW fun i e=> .inr (oR.out i e).1)
      have yx:=Qh fun W (hW:Upd S wx W)=>vR.out.trans (eP.out W hW)
      have sX:¬S wr.heap.size:=fun e=>by have:=(oR.out _ e).2;omega
      have Ec:¬S bm:=fun e=>by have:=(oR.out _ e).1;omega
      have vh:=Qh fun W (hW:Upd S wx W) tx=>ZP ZdN Tryz.underlying152 Zuo ((HM.out.upd UA.out id).upd hW Ec) tx
      have t0:∀W,Upd S wx W->W.cell? ⟨wr.heap.size,0,none⟩=some (Qi xi):=fun W hW=>(BT.out.upd hW sX).cell 0
      have t1:∀W,Upd S wx W->W.cell? ⟨wr.heap.size,1,none⟩=some (.bool xd):=fun W hW=>(BT.out.upd hW sX).cell 1
      have t2:∀W,Upd S wx W->W.cell? ⟨wr.heap.size,2,none⟩=some (.slice xA xo.length xc):=fun W hW=>(BT.out.upd hW sX).cell 2
      have na:Upd S wx wx:=Il _ _;have x7:4095*k<=4095*4096:=Nat.mul_le_mul_left _ (by omega);clear UA BT;obtain⟨wo,gU⟩:∃wo,wo=wr:=⟨_,rfl⟩;subst gU;generalize gk=m0 at*;go_wp2
      go_loopg [7,42] xo.length (fun gm s i wr=>∃(j:Nat) (A4:OA) (c4:Nat) (ys:Ir),j+gm=xo.length∧i= Qi j∧s= .slice A4 ys.length c4∧Hid (Zaj (ZaE cnt txs p) ⟨xi,xd,xo,xA,xc⟩ j ys (xo.drop j)=Zaj (ZaE cnt txs p) ⟨xi,xd,xo,xA,xc⟩ 0 xs xo)∧ys.length<=xs.length+j∧
       Hid (wr.ownsRow wm.heap.size 51 5 (.slice A4 ys.length c4) ys.length (ys.map HBad.cells).flatten)∧Hid (∀i,Own (.slice A4 ys.length c4) i->S i∨wo.heap.size+1<=i)∧Upd S wx wr)
      case atStart=>exact⟨0,A3,c3,xs,by omega,rfl,rfl,Qh rfl,by omega,HO,Qh (fun i e=> .inl (nr.out i e)),na⟩
      case round=>
       obtain⟨j,A4,c4,ys,kx,rfl,rfl,fy,lB,aD,gG,hu2⟩:=hrel;clear na
       by_cases hlt2:j<xo.length
       ·obtain⟨ad2,cq,q0,q1,q2,q3⟩:=(HOps.upd HL.out.1 (yx.out _ hu2) Qo).at_ hlt2;obtain⟨x,hx⟩:=Qe (xo[j]);rw[hx]at q0 q1 q2 q3;obtain⟨rd,ky,tx,nt⟩:=x;simp only at q0 q1 q2 q3;subst cq
        have am:Zaj (ZaE cnt txs p) ⟨xi,xd,xo,some ad2,xc⟩ (j+1) (if ZaE cnt txs p ⟨xi,xd,xo,some ad2,xc⟩ ⟨rd,ky,tx,nt⟩=true then ys++[⟨xi,(j:Int),Zk ⟨rd,ky,tx,nt⟩⟩] else ys) (xo.drop (j+1))=Zaj (ZaE cnt txs p) ⟨xi,xd,xo,some ad2,xc⟩ 0 xs xo:=by
         have:=fy.out;rw[show xo.drop j=⟨rd,ky,tx,nt⟩::xo.drop (j+1) by rw[<-hx];exact Ge hlt2,Zre]at this;exact this
        have aU:=Qh am;have c1:(0:Int)<=(j:Int):=Qn _;have c2:(j:Int)<(xo.length:Int):=by omega
        obtain⟨wy,iP⟩:=Qe (wr.alloc (.cells #[.bool rd,Qi ky,Qi tx,Qi nt] 66));have uy:Upd No wr wy:=by rw[<-iP];exact(Il No wr).alloc _
        have sM:Upd S wx wy:=hu2.noR uy;have bo:Blk wy wr.heap.size 66 [.bool rd,Qi ky,Qi tx,Qi nt]:=by rw[<-iP];exact Im wr _ _
        have o0:=bo.ev 0 rfl
        have o1:=bo.ev 1 rfl
        have o2:=bo.ev 2 rfl
        have o3:=bo.ev 3 rfl
        have ii:Upd No wy wy:=Il _ _;have BO:=Qh bo;have iK:=Qh (Za aD.out uy Qo);have aG:=Qh (fun i e=>aD.out.lt i e);have eI:=hu2.size;have Fy:=(eP.out _ hu2).size;have cZ:=C8.out;have xN:=Qh sM;clear am hx bo uy fy
        cases rd
        ·have HS:=Qh (show Zaj (ZaE cnt txs p) ⟨xi,xd,xo,some ad2,xc⟩ (j+1) ys (xo.drop (j+1))=Zaj (ZaE cnt txs p) ⟨xi,xd,xo,some ad2,xc⟩ 0 xs xo by have:=aU.out;rwa [if_neg (by simp[ZaE])]at this);go_wp2;go_roundg (gk-1);exact⟨j+1,A4,c4,ys,by omega,by go_num,rfl,HS,by omega,iK,gG,xN.out⟩;omega
        by_cases k0:tx=0
        ·subst k0;have HS:=Qh (show Zaj (ZaE cnt txs p) ⟨xi,xd,xo,some ad2,xc⟩ (j+1) ys (xo.drop (j+1))=Zaj (ZaE cnt txs p) ⟨xi,xd,xo,some ad2,xc⟩ 0 xs xo by have:=aU.out;rwa [if_neg (by simp[ZaE])]at this);go_wp2;go_roundg (gk-1);exact⟨j+1,A4,c4,ys,by omega,by go_num,rfl,HS,by omega,iK,gG,xN.out⟩;omega
        have f0:(tx==0)=false:=by simpa using k0
        by_cases ki:tx=xi
        ·subst ki;have HS:=Qh (show Zaj (ZaE cnt txs p) ⟨tx,xd,xo,some ad2,xc⟩ (j+1) ys (xo.drop (j+1))=Zaj (ZaE cnt txs p) ⟨tx,xd,xo,some ad2,xc⟩ 0 xs xo by have:=aU.out;rwa [if_neg (by simp[ZaE])]at this);go_wp2;go_roundg (gk-1);exact⟨j+1,A4,c4,ys,by omega,by go_num,rfl,HS,by omega,iK,gG,xN.out⟩;omega
        have f1:(tx==xi)=false:=by simpa using ki
        obtain⟨cv,hcv⟩:=Qe (cnt ky);have CC:=Qh (show CN 74 #[Qi ky] wy (.bool cv) by rw[<-hcv];exact hc.out wy ky (yx.out _ sM));have HK:=Qh (show∀jb,ZfF p xd (ZcM txs tx) nt (Z9 (Zcy txs tx) ky)=jb->ZaE cnt txs p ⟨xi,xd,xo,some ad2,xc⟩ ⟨true,ky,tx,nt⟩=(cv&&jb) from fun jb hj=>by unfold ZaE;simp only;rw[f0,f1,hcv,hj];rfl);clear hcv k0 ki
        cases cv
        ·have HG:=Qh (HK.out _ rfl);simp only[Bool.false_and]at HG;have HS:=Qh (show Zaj (ZaE cnt txs p) ⟨xi,xd,xo,some ad2,xc⟩ (j+1) ys (xo.drop (j+1))=Zaj (ZaE cnt txs p) ⟨xi,xd,xo,some ad2,xc⟩ 0 xs xo by have:=aU.out;rwa [HG.out,if_neg (by decide)]at this);go_wp2_with fail;refine Ck CC.out fun w3 hu3=>?_;have eH:=Qh (Za iK.out hu3 Qo);have bg:=Qh (sM.noR hu3);go_wp2;go_roundg (gk-1);exact⟨j+1,A4,c4,ys,by omega,by go_num,rfl,HS,by omega,eH,gG,bg.out⟩;omega
        ·go_wp2_with fail;refine Ck CC.out fun w3 hu3=>?_;have h3:Upd S wx w3:=sM.noR hu3;have fp:=yx.out _ h3;obtain⟨ui,uA,uc,bP,re,bD⟩:=ZwB HB.out (ex.out _ fp) tx;have e1:=vh.out w3 h3 tx;rw[bP]at e1;obtain⟨jb,yC⟩:=Qe (ZfF p xd (ZcM txs tx) nt (Z9 (Zcy txs tx) ky));have HG:=Qh (HK.out _ yC);have CJ:=Qh (Zv4 F w3 xi xd (some ad2) xo.length xc ui (ZcM txs tx) uA uc (Zcy txs tx) true ky tx nt p re bD yC);obtain⟨ub,rX⟩:=Qe (ZcM txs tx);obtain⟨un,dW⟩:=Qe ((Zcy txs tx).length);rw[rX,dW]at e1 CJ;clear bP re bD yC rX dW fp;have eH:=Qh (Za iK.out hu3 Qo);change (Instr.lookup 152 (.map (some bm)) (Qi tx) false).run Tryz.prog w3= .ok (.agg #[Qi ui,.bool ub,.slice uA un uc]) w3 at e1;go_wp2_with fail;refine Ck CJ.out fun w4 hu4=>?_;have h4:Upd S wx w4:=h3.noR hu4;have lM:=Qh (Za eH.out hu4 Qo);have dl:=Qh h4;have ld:=Qh (BO.out.upd (hu3.trans hu4) id);have fT:=(hu3.trans hu4).size;have EO:wr.heap.size<wy.heap.size:=BO.out.lt
         cases jb
         ·have HS:=Qh (show Zaj (ZaE cnt txs p) ⟨xi,xd,xo,some ad2,xc⟩ (j+1) ys (xo.drop (j+1))=Zaj (ZaE cnt txs p) ⟨xi,xd,xo,some ad2,xc⟩ 0 xs xo by have:=aU.out;rwa [HG.out,if_neg (by decide)]at this);go_wp2;go_roundg (gk-1);exact⟨j+1,A4,c4,ys,by omega,by go_num,rfl,HS,by omega,lM,gG,dl.out⟩;omega
         ·have HS:=Qh (show Zaj (ZaE cnt txs p) ⟨xi,xd,xo,some ad2,xc⟩ (j+1) (ys++[⟨xi,(j:Int),⟨tx,ky,nt⟩⟩]) (xo.drop (j+1))=Zaj (ZaE cnt txs p) ⟨xi,xd,xo,some ad2,xc⟩ 0 xs xo by have:=aU.out;rwa [HG.out,if_pos (by decide)]at this);have s8:¬Own (.slice A4 ys.length c4) wr.heap.size:=fun e=>by have:=(aG.out _ e).2;omega
          have yz:¬Own (.slice A4 ys.length c4) wo.heap.size:=fun e=>by
           rcases gG.out _ e with e|e
           ·exact sX e
           ·omega
          have p0:∀W,Upd (Own (.slice A4 ys.length c4)) w4 W->W.cell? ⟨wr.heap.size,0,none⟩=some (.bool true):=fun W hW=>(ld.out.upd hW s8).cell 0
          have p1:∀W,Upd (Own (.slice A4 ys.length c4)) w4 W->W.cell? ⟨wr.heap.size,1,none⟩=some (Qi ky):=fun W hW=>(ld.out.upd hW s8).cell 1
          have p2:∀W,Upd (Own (.slice A4 ys.length c4)) w4 W->W.cell? ⟨wr.heap.size,2,none⟩=some (Qi tx):=fun W hW=>(ld.out.upd hW s8).cell 2
          have p3:∀W,Upd (Own (.slice A4 ys.length c4)) w4 W->W.cell? ⟨wr.heap.size,3,none⟩=some (Qi nt):=fun W hW=>(ld.out.upd hW s8).cell 3
          have s0:∀W,Upd (Own (.slice A4 ys.length c4)) w4 W->W.cell? ⟨wo.heap.size,0,none⟩=some (Qi xi):=fun W hW=>hW.keep (t0 _ dl.out) yz
          clear t0 t1 t2 o0 o1 o2 o3 sM ii h3 h4 hu3 hu4 e1;go_wp2;refine wpS (fun w'=>Upd (Own (.slice A4 ys.length c4)) w4 w') ?_ fun jH=>?_
          ·(first|exact(Il _ _).drew|exact jH.noR hu5|exact jH.alloc _|exact aw)
          (iterate 5 refine wpF ?_);refine wpZ 5 rfl fun K hK=>?_;go_simp
          (first
  |(go_at_call 58;refine Ck (Zl6 _ ky tx nt) fun w5 hu5=>?_;have dU:=Za lM.out hu5.of_drew Qo;have tY:=hu5.of_drew.size))
          try (go_wp2_with fail)
          refine hK.out _ _ ?_ fun jH=>?_
          ·(first|exact(Il _ _).drew|exact jH.noR hu5|exact jH.alloc _|exact aw)
          try simp only[Qa]
          refine wpK 6 rfl ?_;refine wpZ 7 rfl fun K hK=>?_;go_simp;refine hK.out _ _ ?_ fun jH=>?_
          ·(first|exact(Il _ _).drew|exact jH.noR hu5|exact jH.alloc _|exact aw)
          try simp only[Qa]
          refine wpZ 8 rfl fun K hK=>?_
          (first
  |(refine Zaq (by rfl) (by rfl) Zsi (v:= .slice A4 ys.length c4) (cells:=[Qi xi,Qi (j:Int),Qi tx,Qi ky,Qi nt]) (by rfl) (by rfl) (by exact dU.alloc _) rfl (by exact Zah) (by rfl) (by omega) (by omega) (by simp;omega) ?_;intro g6 c6 w6 ar hu6 cI cU;have aw:Upd (Own (.slice A4 ys.length c4)) w4 w6:=jH.trans hu6))
          refine hK.out _ _ ?_ fun jH=>?_
          ·(first|exact(Il _ _).drew|exact jH.noR hu5|exact jH.alloc _|exact aw)
          try simp only[Qa]
          refine wpK 9 rfl ?_;refine wpD (Ii ?_)
          have eh:=Qh (dl.out.then_ jH fun i e=>by
           rcases gG.out i e with e|e
           ·exact .inl e
           ·exact .inr (by omega))
          have fa:=Qh (show∀i,Own (.slice (some ⟨g6,0,none⟩) (ys.length+1) c6) i->S i∨wo.heap.size+1<=i from fun i e=>by
           rcases cI with h|⟨k6,ei,hlk⟩
           ·exact gG.out i (h.symm.trans e)
           ·have e2:(some k6:Option Nat)=some i:=ei.symm.trans e
            cases e2
            simp only[Ij]at hlk;exact .inr (by omega))
          clear jH p0 p1 p2 p3 s0 cI;go_wp2;go_roundg (gk-1);exact⟨j+1,some ⟨g6,0,none⟩,c6,ys++[⟨xi,(j:Int),⟨tx,ky,nt⟩⟩],by omega,by go_num,by simp,HS,by simp;omega,Qh (by simpa[HBad.cells]using ar),Qh (by simpa using fa.out),eh.out⟩;omega
       ·obtain rfl:j=xo.length:=by omega
        have HS:=Qh (show Zcb (ZaE cnt txs p) ys (txs.drop (k+1))=Zcb (ZaE cnt txs p) [] txs by
         have:=fy.out;rw[G9]at this;rw[<-gI.out,<-this];rfl)
        go_wp2;go_roundg (m0-1);exact⟨k+1,A4,c4,ys,by omega,by go_num,rfl,HS,by omega,aD,eP.out _ hu2⟩;omega
     ·obtain rfl:k=txs.length:=by omega
      have HS:=Qh (show xs=Zgi cnt ⟨txs,ords,A,c,B,d⟩ p by rw[<-HV.out,<-hs.out,G9];rfl);go_wp2;go_ret;exact⟨A3,c3,by rw[<-HS.out];rfl,by rw[<-HS.out];exact ZK ae.out tG,vR.out.trans hu1⟩
/- Reads that may not be:all of a history,those of a key;which one is ahead. -/
theorem oOf(F:Iw)(w:I0)(txs:List HTx)(ords:List HOrd)(A:OA)(c:Nat)(B:OA)(d:Nat)(p:Int)(H:Hist.lies F w ⟨txs,ords,A,c,B,d⟩):
  Calls Tryz.prog 36 #[.agg #[.slice A txs.length c,.slice B ords.length d],Qi p] w (Zon w (ZW ⟨txs,ords,A,c,B,d⟩ p)):=by
 obtain⟨wb,ag⟩:=Qe (w.alloc (.cells #[.slice A txs.length c,.slice B ords.length d] 25));have u0:Upd No w wb:=by rw[<-ag];exact(Il No w).alloc _
 have bH:Blk wb w.heap.size 25 [.slice A txs.length c,.slice B ords.length d]:=by rw[<-ag];exact Im w _ _
 obtain⟨g0,g1⟩:=bH.c2;have HG:=Qh (Zvi F wb txs ords A c B d (fun _=>true) p (H.upd u0 Qo) (Qh fun W key _=>Zyc W key));rw[Zte]at HG;have U0:=Qh u0;clear bH u0;go_enter Tryz.func36,Tryz.ntmps36;go_wp2_with fail;refine(HG.out).mono ?_;rintro e w1 ⟨A1,c1,rfl,ho,hu⟩;go_wp2;go_ret;exact⟨A1,c1,rfl,ZK ho U0.out.size,U0.out.trans hu⟩
/-! which one is ahead -/
def Zc7(a b:HBad):Bool:=
 if a.tx≠b.tx then decide (a.tx<b.tx) else if a.place≠b.place then decide (a.place<b.place) else if a.of.tx≠b.of.tx then decide (a.of.tx<b.of.tx)
 else if a.of.key≠b.of.key then decide (a.of.key<b.of.key) else decide (a.of.nth<b.of.nth)
