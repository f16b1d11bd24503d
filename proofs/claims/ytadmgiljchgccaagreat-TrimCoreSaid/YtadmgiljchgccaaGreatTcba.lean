/- The orders ZaC a transaction's going (history.settle, at one that has no operations). -/
import Derived.Test.YtadmgiljchgccaaGreatTcap
import Derived.Test.YtadmgiljchgccaaGreatTcat
import Derived.Test.YtadmgiljchgccaaGreatTcax
namespace Go.Proofs.YtadmgiljchgccaaGreat
open Go.RowKit
set_option linter.unusedVariables false
set_option linter.unusedSimpArgs false
set_option maxRecDepth 100000
set_option maxHeartbeats 4000000
theorem Zow{P:Ix}{ops:Array Oper}{o:Oper}{a:Act}{W:I0}{K:Act->I0->Prop}{Q:Exit->Act->I0->Prop}{E:Prop}(cm:o.guard=none){ty:Iy}{x y:Operand}(ho:o.op= .store ty x y)
  {g i:Nat} {t:Iy} {old:Ip} {v:Iz} {A:Addr} (hx:a.eval x= .pointer (some A)) (hA:A=⟨g,i,none⟩) (hy:a.eval y=v) (hb:Blk W g t old) (hi:(P.info? ty).map (·.size)=some 1) (hl:i<old.length) (h1:v.oneCell'=true)
  (h:∀w',Blk w' g t (old.set i v)->Upd (One g) W w'->K (a.put o.dst undef) w'):if Region.wanted o (yielded ops a.tmps)=true then Oper.wp P o a W K Q else E:=by
 subst hA;exact Zs cm ho hx hy hb hi hl h1 h
theorem Zl5{A:OA}{c:Nat}{t:Iv}:∀(xs:List HOrd) (k:Nat) (y:HOrd),xs[k]? =some y->(Za9 xs).set (k*2+1) (.slice A t.length c)=Za9 (xs.set k ⟨y.key,t,A,c⟩)
 |[],k,y,h=>by simp at h
 |x::xs,0,y,h=>by
  simp only[Qz,Gy]at h;subst h;rfl
 |x::xs,k+1,y,h=>by
  have ih:=Zl5 (A:=A) (c:=c) (t:=t) xs k y (by simpa using h);rw[Ze4,List.set_cons_succ,Ze4,<-ih,show(k+1)*2+1=(k*2+1)+1+1 by omega];rfl
theorem ZuL{α β:Type}(l:List α)(f g:α->β)(k:Nat)(hk:k<l.length):((l.take k).map f++(l.drop k).map g).set k (f l[k])=(l.take (k+1)).map f++(l.drop (k+1)).map g:=by
 have hl:((l.take k).map f).length=k:=by rw[Hw,Hm];omega
 rw[Ge hk,Id,List.set_append_right _ _ (by omega),hl,Nat.sub_self,List.set_cons_zero,Gb hk,Hu,Gx];rfl
theorem Zo6{xs m:List HOrd}{id:Int}(h:xs.map orP=m.map fun o=>orP (ZeV id o)):(ZaJ xs).map orP=(ZaR m id).map orP:=by
 have e1:(ZaJ xs).map orP=(xs.map orP).filter fun p=> !(p.2.length==0):=by
  unfold ZaJ ZaB;rw[List.filter_map];rfl
 have e2:(ZaR m id).map orP=((m.map (ZeV id)).map orP).filter fun p=> !(p.2.length==0):=by
  unfold ZaR;rw[List.filter_map (f:=orP)]
  congr 1
  apply List.filter_congr
  intro o _
  show(!o.txs.isEmpty)= !(o.txs.length==0)
  cases o.txs<;>rfl
 rw[e1,e2,h,List.map_map];rfl
theorem Zo5{P:HOrd->Prop}{xs:List HOrd}(h:∀o∈xs,P o):∀o∈ZaJ xs,P o:=fun o ho=>h o ((Hy.1 ho).1)
theorem Zu9(w:I0)(cb gB n c d:Nat)(A:OA)(ad:Addr)(ff:Hid (ad=⟨gB,0,none⟩))(m:List HOrd)(i0:Int)(cs:Ip)(mN:Blk w cb 25 [.slice A n c,.slice (some ad) m.length d])
  (hB:Blk w gB 68 cs) (ht:cs.take (m.length*2)=Za9 m) (aT:cs.length=d*2) (cy:m.length<=d) (hl:m.length<=1000000) (hne:cb≠gB) (F:Iw) (HF:Hid (∀i,F i->i≠gB∧i≠cb)) (HN:Hid (∀i,w.heap.size<=i->F i)) (jn:∀o∈m,o.lies F w):
  Calls Tryz.prog 145 #[.pointer (some ⟨cb,0,none⟩),.agg #[Qi i0,.bool false,.slice none 0 0]] w fun e w'=>e= .returned (.tuple #[])∧∃l':List HOrd,Blk w' cb 25 [.slice A n c,.slice (some ad) l'.length d]∧l'.map orP=(ZaR m i0).map orP∧
   OrdsAt (fun i=>i=gB) w' (some ad) l'∧(∀o∈l',o.lies F w')∧l'.length<=d∧Upd (fun i=>i=gB∨i=cb) w w':=by
 obtain⟨z,hz⟩:=Qe w.heap.size;obtain⟨wb,ag⟩:=Qe (w.alloc (.cells #[Qi i0,.bool false,.slice none 0 0] 39));have u1:Upd No w wb:=by rw[<-ag];exact(Il No w).alloc _
 have b1:Blk wb z 39 [Qi i0,.bool false,.slice none 0 0]:=by rw[<-ag,<-hz];exact Im w _ _
 obtain⟨c0,c1,c2⟩:=b1.c3;have HK:=Qh (Zo2 (fun _=>True) wb i0 false none 0 [] (fun h=>absurd rfl h) (by unfold Zt;simp));rw[show ZbB []=[] from rfl]at HK;have dK:=hB.lt;have FP:=mN.lt;have pt:=Qh (mN.upd u1 id);have xI:=Qh (And.intro (hB.upd u1 id) (And.intro ht aT));have Ap:=Qh (fun o ho=>(jn o ho).upd u1 Qo);have dq:=Qh b1;have U1:=Qh u1;clear u1 b1 mN hB ht aT jn;go_enter Tryz.func145,Tryz.ntmps145;go_wp2_with fail;refine(HK.out).mono ?_;rintro e w2 ⟨A2,k2,rfl,cE,hu2⟩;have U2:=Qh (U1.out.trans hu2);have gF:=pt.out.upd hu2 id;have aS:=dq.out.upd hu2 id;have wd:=Qh gF;have ph:¬One gB z:=fun e=>by cases e;omega
 have bG:¬One gB cb:=hne;have t0:∀W,Upd (One gB) w2 W->W.cell? ⟨z,0,none⟩=some (Qi i0):=fun W u=>by have:=(aS.upd u ph).cell 0;simpa using this
 have t1:∀W,Upd (One gB) w2 W->W.cell? ⟨z,1,none⟩=some (.bool false):=fun W u=>by have:=(aS.upd u ph).cell 1;simpa using this
 have t2:∀W,Upd (One gB) w2 W->W.cell? ⟨z,2,none⟩=some (.slice none 0 0):=fun W u=>by have:=(aS.upd u ph).cell 2;simpa using this
 have e1:∀W,Upd (One gB) w2 W->W.cell? ⟨cb,1,none⟩=some (.slice (some ad) m.length d):=fun W u=>by have:=(gF.upd u bG).cell 1;simpa using this
 have tk:Upd (One gB) w2 w2:=Il _ _;have dR:=Qh (And.intro (xI.out.1.upd hu2 id) xI.out.2);have wQ:=Qh (fun o ho=>(Ap.out o ho).upd hu2 Qo);clear c0 c1 c2 cE hu2 gF aS pt xI Ap;go_wp2
 go_loopg [13] 0 (fun gk s wr=>gk=0∧s= Qi 0∧w2=wr)
 case atStart=>exact⟨rfl,rfl,rfl⟩
 case round=>
  obtain⟨-,rfl,rfl⟩:=hrel;go_wp2
  go_loopg [50] m.length (fun gk s wr=>∃(k:Nat) (xs:List HOrd) (cs':Ip),k+gk=m.length∧s= Qi (k:Int)∧Hid (xs.map orP=(m.take k).map (fun o=>orP (ZeV i0 o))++(m.drop k).map orP)∧Hid (Blk wr gB 68 cs'∧cs'.take (m.length*2)=Za9 xs∧cs'.length=d*2)∧Hid (xs.length=m.length)∧Hid (∀o∈xs,o.lies F wr)∧Upd (One gB) w2 wr)
  case atStart=>exact⟨0,m,cs,by omega,rfl,Qh (by simp),dR,Qh rfl,wQ,tk⟩
  case round=>
   obtain⟨k,xs,cs',aI,rfl,hs,cN,hxl,cK,hu⟩:=hrel
   by_cases hlt:k<m.length
   ·have p8:k<xs.length:=by rw[hxl.out];exact hlt
    have aK:OrdsAt (fun i=>i=gB) wr (some ad) xs:=by rw[ff.out];exact Zf4 cN.out.1 (by rw[hxl.out];exact cN.out.2.1)
    obtain⟨ad',e',q0,q1⟩:=aK.at_ p8
    cases e'
    have aZ:=cK.out xs[k] (Hg p8);obtain⟨x,hx⟩:=Qe (xs[k]);rw[hx]at q0 q1 aZ
    have hP:orP x=orP m[k]:=by
     have h1:=congrArg (fun l=>l[k]?) hs.out;simp only[List.getElem?_map,Qg p8,hx,Option.map_some]at h1;rw[List.getElem?_append_right (by rw[Hw,Hm];omega),Hw,Hm,Nat.min_eq_left (by omega),Nat.sub_self,List.getElem?_map,List.getElem?_drop,Nat.add_zero,Qg hlt]at h1
     simpa using h1
    have HX:=Qh (show xs[k]? =some x by rw[Qg p8,hx]);have HP:=Qh hP;have dX:=Qh aZ;have b2:(k:Int)<(m.length:Int):=by omega
    have b1:(0:Int)<=(k:Int):=Qn _;have HW:=Qh (ZsK _ wr.drew.drew x.A x.c x.txs i0 (aZ.1.upd ((Il No wr).drew.drew) Qo) aZ.2.2.1);have HU:=Qh hu;have kv:=hu.size;have eI:=U2.out.size;clear aK p8 hx hP aZ;go_wp2;refine wpS (fun W'=>Upd (One gB) w2 W') ?_ fun jH=>?_
    ·(first|exact hu.drew|exact jH)
    (iterate 8 refine wpF ?_);refine wpZ 8 rfl fun K hK=>?_;go_simp;refine hK.out _ _ ?_ fun jH=>?_
    ·exact jH
    try simp only[Qa]
    (iterate 2 refine wpF ?_);refine wpD (Ii ?_);clear jH;go_wp2;refine wpS (fun W'=>Upd (One gB) w2 W') ?_ fun jH=>?_
    ·(first|exact hu.drew.drew|exact jH|exact jH.noR hu4|exact az)
    (iterate 4 refine wpF ?_);refine wpK 5 rfl ?_;refine wpK 6 rfl ?_;refine wpZ 4 rfl fun K hK=>?_;go_simp;refine hK.out _ _ ?_ fun jH=>?_
    ·(first|exact hu.drew.drew|exact jH|exact jH.noR hu4|exact az)
    try simp only[Qa]
    refine wpZ 7 rfl fun K hK=>?_;go_simp
    (first
  |(go_at_call 201;refine HW.out.mono ?_;rintro e w4 ⟨A4,c4,rfl,aW,hu4⟩;have DB:=Qh (cN.out.1.drew.drew.upd hu4 id)))
    try (go_wp2_with fail)
    refine hK.out _ _ ?_ fun jH=>?_
    ·(first|exact hu.drew.drew|exact jH|exact jH.noR hu4|exact az)
    try simp only[Qa]
    (iterate 2 refine wpF ?_);refine wpZ 10 rfl fun K hK=>?_
    (first
  |(refine Zow (by rfl) (by rfl) (g:=gB) (i:=k*2+1) (v:= .slice A4 (woI i0 x.txs).length c4) (by rfl) (by rw[ff.out,Zmo];simp) (by rfl) DB.out (by kernel_rfl) (by have:=cN.out.2.2;omega) rfl ?_;intro w7 a8 aq;have az:Upd (One gB) w2 w7:=jH.trans aq))
    refine hK.out _ _ ?_ fun jH=>?_
    ·(first|exact hu.drew.drew|exact jH|exact jH.noR hu4|exact az)
    try simp only[Qa]
    refine wpD (Ii ?_);have HH:=Qh (And.intro jH (And.intro a8 aq));clear jH az a8 aq t0 t1 t2 e1 hu q0 q1;go_wp2;go_roundg (gk-1)
    case measure=>omega
    case rel=>
     obtain⟨jH,a8,aq⟩:=HH.out;have hP:=HP.out;have e1:x.key=m[k].key:=congrArg Prod.fst hP;have e2:x.txs=m[k].txs:=congrArg Prod.snd hP;have Fd:Upd (One gB) wr w7:=(((Il (One gB) wr).drew.drew).noR hu4).trans aq;have dV:(woI i0 x.txs).length<=x.txs.length:=Gj ..;have fT:wr.drew.drew.heap.size=wr.heap.size:=rfl;refine⟨k+1,xs.set k ⟨x.key,woI i0 x.txs,A4,c4⟩,_,by omega,by go_num,Qh ?_,Qh ⟨a8,?_,?_⟩,Qh ?_,Qh ?_,jH⟩
     ·rw[List.map_set,hs.out,<-ZuL m (fun o=>orP (ZeV i0 o)) orP k hlt]
      congr 1
      show(x.key,woI i0 x.txs)=(m[k].key,m[k].txs.filter fun n=> !(n==i0))
      rw[e1,e2];rfl
     ·rw[List.take_set,cN.out.2.1];exact Zl5 xs k x HX.out
     ·rw[List.length_set];exact cN.out.2.2
     ·rw[List.length_set];exact hxl.out
     ·intro o ho;rcases List.mem_or_eq_of_mem_set ho with ho|rfl
      ·exact(cK.out o ho).upd Fd (fun i h e=>(HF.out i h).1 e)
      ·exact⟨(Ints.weak (G:=F) (Ints.of_owned aW) (fun i _ h=>HN.out i (by have:wr.drew.drew.heap.size<=i:=h;omega))).upd aq (fun i h e=>(HF.out i h).1 e),Zbq aW,Nat.le_trans dV dX.out.2.2.1,dX.out.2.2.2.1,fun n hn=>dX.out.2.2.2.2 n (Hy.1 hn).1⟩
   ·obtain rfl:k=m.length:=by omega
    have cp:xs.map orP=m.map fun o=>orP (ZeV i0 o):=by
     have:=hs.out
     rwa [G7,G9,List.map_nil,Ho]at this
    have hO:=Zyb wr ad gB d ff xs cs' cN.out.1 (by rw[hxl.out];exact cN.out.2.1) cN.out.2.2 (by rw[hxl.out];exact cy) (by rw[hxl.out];exact hl);have d7:(ZaJ xs).length<=d:=Nat.le_trans (Gj ..) (by rw[hxl.out];exact cy);rw[hxl.out]at hO;have HO:=Qh hO;have HG:=Qh (And.intro (Zo6 cp) d7);have pt:=Qh (wd.out.upd hu hne);have HU:=Qh hu;clear hO d7 cp t0 t1 t2 hs cN;go_wp2_with fail;refine(HO.out).mono ?_;rintro e w6 ⟨rfl,⟨cs6,bQ,zK⟩,hu6⟩;have lF:=pt.out.upd hu6 hne;have f0:=lF.cell 1;have k1:=lF.free 1;simp only[Qz,Qs]at f0;have xE:=Qh lF;have cG:=Qh (And.intro bQ zK);have eh:=Qh hu6;clear lF bQ zK hu6 e1 hu;go_wp2;refine bodyPost_end (results_none rfl _ _ _) rfl ⟨rfl,ZaJ xs,?_,HG.out.1,?_,?_,HG.out.2,?_⟩
    ·have:=xE.out.set_ 1 (.slice (some ad) (ZaJ xs).length d)
     simpa using this
    ·rw[ff.out];exact(Zf4 cG.out.1 cG.out.2).upd ((Il (One cb) w6).setOne 1 _) (fun i h e=>by have e2:i=cb:=e;omega)
    ·exact Zo5 fun o ho=>((cK.out o ho).upd eh.out (fun i h e=>(HF.out i h).1 e)).upd ((Il (One cb) w6).setOne 1 _) (fun i h e=>(HF.out i h).2 e)
    ·exact((U2.out.mono (fun _ _ e=>e.elim)).trans ((HU.out.trans eh.out).mono (fun i _ e=>Or.inl e))).trans (((Il (One cb) w6).setOne 1 _).mono (fun i _ e=>Or.inr e))
theorem Zxd(w:I0)(B:OA)(d:Nat):
  CN 202 #[.slice B 0 d,.func (.func 203) #[] #[]] w (.slice B 0 d):=by
 have HI:Hid (CN 225 #[.slice B 0 d,.func (.func 203) #[] #[]] w (Qi (-1))):=Qh (Zv5 (fun _=>True) w B d [] (fun h=>absurd rfl h) (by simp));go_enter Tryz.func202,Tryz.ntmps202;go_wp2_with fail;refine Ck HI.out fun w1 hu1=>?_;go_wp2;go_ret;exact⟨rfl,hu1⟩
theorem Zs6(w:I0)(cb n c d:Nat)(A B:OA)(i0:Int)(mN:Blk w cb 25 [.slice A n c,.slice B 0 d]):
  Calls Tryz.prog 145 #[.pointer (some ⟨cb,0,none⟩),.agg #[Qi i0,.bool false,.slice none 0 0]] w fun e w'=>e= .returned (.tuple #[])∧Blk w' cb 25 [.slice A n c,.slice B 0 d]∧Upd (One cb) w w':=by
 obtain⟨z,hz⟩:=Qe w.heap.size;obtain⟨wb,ag⟩:=Qe (w.alloc (.cells #[Qi i0,.bool false,.slice none 0 0] 39));have u1:Upd No w wb:=by rw[<-ag];exact(Il No w).alloc _
 have b1:Blk wb z 39 [Qi i0,.bool false,.slice none 0 0]:=by rw[<-ag,<-hz];exact Im w _ _
 obtain⟨c0,c1,c2⟩:=b1.c3;have HK:Hid (Calls Tryz.prog 69 #[.agg #[Qi i0,.bool false,.slice none 0 0]] wb (Zcs wb [])):=Qh (Zo2 (fun _=>True) wb i0 false none 0 [] (fun h=>absurd rfl h) (by unfold Zt;simp));have pt:=Qh (mN.upd u1 id);have dq:=Qh b1;have U1:=Qh u1;clear u1 b1 mN;go_enter Tryz.func145,Tryz.ntmps145;go_wp2_with fail;refine(HK.out).mono ?_;rintro e w2 ⟨A2,k2,rfl,cE,hu2⟩;have gF:=pt.out.upd hu2 id;have f0:=gF.cell 1;have k1:=gF.free 1;simp only[Qz,Qs]at f0;have wd:=Qh gF;have U2:=Qh (U1.out.trans hu2);clear c0 c1 c2 cE hu2 gF;go_wp2
 go_loopg [13] 0 (fun gk s wr=>gk=0∧s= Qi 0∧w2=wr)
 case atStart=>exact⟨rfl,rfl,rfl⟩
 case round=>
  obtain⟨-,rfl,rfl⟩:=hrel;go_wp2
  go_loopg [50] 0 (fun gk s wr=>gk=0∧s= Qi 0∧w2=wr)
  case atStart=>exact⟨rfl,rfl,rfl⟩
  case round=>
   obtain⟨-,rfl,rfl⟩:=hrel;have HO:=Qh (Zxd w2 B d);go_wp2_with fail;refine Ck HO.out fun w6 hu6=>?_;have lF:=wd.out.upd hu6 id;have f6:=lF.cell 1;have k6:=lF.free 1;simp only[Qz,Qs]at f6;have xE:=Qh lF;have U6:=Qh (U2.out.trans hu6);clear lF f0 k1 hu6;go_wp2;refine bodyPost_end (results_none rfl _ _ _) rfl ⟨rfl,?_,(U6.out.mono (fun _ _ e=>e.elim)).setOne 1 _⟩;have:=xE.out.set_ 1 (.slice B 0 d)
   simpa using this
/- Digraphs:the nodes of some ends. -/
def ZdI(mask:Int)(l:Iq):Iv:=(l.filter fun e=>Zf mask e.kind).map (·.node)
def Zee(mask:Int)(l:Iq):Iv:=Lib.compact (Z1 (ZdI mask l))
theorem Zqs{mask:Int}{l:Iq}{k:Nat}{x:DEnd}(hk:k<l.length)(hx:l[k]=x)(hr:Zf mask x.kind=true):ZdI mask (l.take (k+1))=ZdI mask (l.take k)++[x.node]:=by
 subst hx;unfold ZdI;rw[Gb hk,List.filter_append,Hu,List.filter_cons_of_pos (by rw[hr])];rfl
theorem ZsC{mask:Int}{l:Iq}{k:Nat}{x:DEnd}(hk:k<l.length)(hx:l[k]=x)(hr:Zf mask x.kind=false):ZdI mask (l.take (k+1))=ZdI mask (l.take k):=by
 subst hx;unfold ZdI;rw[Gb hk,List.filter_append,Hu,List.filter_cons_of_neg (by rw[hr];decide)];simp
theorem Zwo(w:I0)(mask kind:Int)(h1:1<=kind)(h2:kind<=3):CN 230 #[Qi mask,Qi kind] w (.bool (Zf mask kind)):=
 (dof w mask kind h1 h2).mono fun _ _ h=>⟨h.1,h.2▸Il No w⟩
theorem Zt9(F:Iw)(w:I0)(mask:Int)(A:OA)(c:Nat)(l:Iq)(h:DEnds F w A l)(rh:∀e∈l,1<=e.kind∧e.kind<=3)(hl:l.length<=1000000):
  Calls Tryz.prog 184 #[.slice A l.length c,Qi mask] w (Zcs w (Zee mask l)):=by
 go_enter Tryz.func184,Tryz.ntmps184;go_wp2
 go_loopg [5,10] l.length (fun gk s i wr=>∃(k:Nat) (A5:OA) (c5:Nat) (xs:Iv),k+gk=l.length∧i= Qi k∧s= .slice A5 xs.length c5∧Hid (xs=ZdI mask (l.take k))∧xs.length<=k∧
  wr.ownsRow w.heap.size 3 1 (.slice A5 xs.length c5) xs.length (xs.map (Value.int .i64))∧Upd No w wr)
 case atStart=>exact⟨0,none,0,[],by omega,rfl,rfl,Qh (by simp[ZdI]),by simp,Ik _ _ _ _,Il _ _⟩
 case round=>
  obtain⟨k,A5,c5,xs,aI,rfl,rfl,cZ,hxl,ae,hu⟩:=hrel
  by_cases hlt:k<l.length
  ·obtain⟨ad,aH,q0,q1,q2⟩:=(h.upd hu Qo).at_ hlt;obtain⟨hk1,hk2⟩:=rh _ (Hg hlt);obtain⟨x,hx⟩:=Qe (l[k]);rw[hx]at q0 q1 q2 hk1 hk2;subst aH;have X:=Qh hx;clear hx;have b1:(0:Int)<=(k:Int):=Qn _;have b2:(k:Int)<(l.length:Int):=by omega
   have uA:=(Il No wr).alloc (.cells #[Qi x.kind,Qi x.label,Qi x.node] 160);have bo:=Im wr 160 [Qi x.kind,Qi x.label,Qi x.node];have aM:=Za ae uA Qo;have g0:=bo.cell 0;simp only[Qz]at g0;have dv:=Qh (fun W=>Zwo W mask x.kind hk1 hk2)
   cases hr:Zf mask x.kind
   ·rw[hr]at dv;have HS:=Qh (ZsC hlt X.out hr);clear hr;go_wp2_with fail;refine Ck (dv.out _) fun w1 hu1=>?_;have ie:=Qh ((hu.trans uA).trans hu1);have aD:=Za aM hu1 Qo;clear aM uA hu1;go_wp2;go_roundg (gk-1);exact⟨k+1,A5,c5,xs,by omega,by go_num,rfl,Qh (by rw[HS.out,cZ.out]),by omega,aD,ie.out⟩;omega
   ·rw[hr]at dv;have HS:=Qh (Zqs hlt X.out hr);clear hr;go_wp2_with fail;refine Ck (dv.out _) fun w1 hu1=>?_;have bo1:=bo.upd hu1 id;have g1:=bo1.cell 2;simp only[Qz,Qs]at g1;have aD:=Za aM hu1 Qo;have fG:=(uA.trans hu1).size;have iX:=hu.size;have ie:=Qh ((hu.trans uA).trans hu1);clear aM uA hu1;go_wp2_with (at_builtin;refine ZbG rfl rfl Zay (v:= .slice A5 xs.length c5) (cells:=[Qi x.node]) (by rfl) rfl aD rfl rfl (by omega) (by omega) (by omega) ?_;intro g' c' w2 aQ hu3 gd qq);go_roundg (gk-1)
    case measure=>omega
    case rel=>
     refine⟨k+1,some ⟨g',0,none⟩,c',xs++[x.node],by omega,by go_num,by simp,Qh (by rw[HS.out,cZ.out]),by simp;omega,by simpa using aQ,ie.out.then_ hu3 fun i e=>?_⟩;exact .inr (aD.lt i e).1
  ·obtain rfl:k=l.length:=by omega
   have Hx:=Qh (show xs=ZdI mask l by rw[cZ.out,G7]);clear cZ;have im:=Qh (Zbk xs);have Hk:=Qh (show Lib.compact (Z1 xs)=Zee mask l by rw[Hx.out];rfl);go_wp2_with fail;refine(Zgb _ _ A5 c5 xs ae (by omega)).mono ?_;rintro e w1 ⟨rfl,cn,hu1⟩;have gy:w1.ownsRow w.heap.size 3 1 (.slice A5 (Z1 xs).length c5) (Z1 xs).length ((Z1 xs).map (Value.int .i64)):=by rw[im.out];exact cn
   have ia:=ZeO w1 w.heap.size A5 c5 (Z1 xs) gy (by rw[im.out];omega);rw[Hk.out,im.out]at ia;have uY:=Qh ia;have du:=Qh (show∀i,Own (.slice A5 xs.length c5) i->w.heap.size<=i from fun i e=>(ae.lt i e).1);clear ia cn gy ae;go_wp2_with fail;refine(uY.out).mono ?_;rintro e w2 ⟨rfl,cE,hu2⟩;go_wp2;go_ret;exact⟨A5,c5,rfl,cE,(hu.then_ hu1 fun i e=> .inr (du.out i e)).then_ hu2 fun i e=> .inr (du.out i e)⟩
/- Digraphs:the nodes next to one,and those ahead of it. -/
def Zbv(mask:Int)(ls:List (Iq))(i:Int):Iv:=match (if ZY ls.length i then ls[i.toNat]? else none)with|some l=>Zee mask l|none=>[]
def ZgS(ls:List (Iq)):Prop:=∀l∈ls,∀e∈l,1<=e.kind∧e.kind<=3
theorem Zf8(w w':I0)(u:Upd No w w'):Zcs w [] (.returned (.slice none 0 0)) w':=⟨none,0,rfl,Ik _ _ _ _,u⟩
section
variable {w:I0} {G:Iw} {g:Nat} {out inn:List (Iq)} {n:Int} {ob ib:Nat} {oh ih:Ip} {base:Nat}
theorem Zxw(h:GIs w G g out inn n ob ib oh ih base)(hk:ZgS out)(i mask:Int):Calls Tryz.prog 131 #[.pointer (some ⟨g,0,none⟩),Qi i,Qi mask] w (Zcs w (Zbv mask out i)):=by
 have HN:=Qh (Zln h i)
 by_cases hb:ZY out.length i=true
 ·have dZ:=hb;simp only[ZY,Hj,Gw]at dZ;obtain⟨j,rfl⟩:∃j:Nat,i=(j:Int):=⟨i.toNat,by omega⟩;have hj:j<out.length:=by omega
  obtain⟨A,c,dL,ae⟩:=h.ro.2 j hj;have hv:=Qh (show Zbv mask out (j:Int)=Zee mask out[j] by unfold Zbv;rw[if_pos hb];simp[Qg hj]);have c0:=h.blk.cell 0;have c1:w.cell? ⟨ob,j,none⟩=some (.slice A out[j].length c):=by rw[h.ob_.cell j];exact dL
  have hc:=Qh (Zt9 _ w mask A c out[j] (Zef ae) (hk _ (Hg hj)) (Nat.le_trans (h.few.2.1 _ (Hg hj)) (by omega)));have k1:(0:Int)<=(j:Int):=Qn _;have k2:(j:Int)<(out.length:Int):=by omega
  simp only[Qz]at c0;rw[hb]at HN;clear hb dZ dL ae h hk;go_enter Tryz.func131,Tryz.ntmps131;go_wp2_with fail;refine(HN.out).mono ?_;rintro e w1 ⟨rfl,rfl⟩;go_wp2_with fail;refine(hc.out).mono ?_;rintro e w2 ⟨A2,c2,rfl,ho,hu⟩;go_wp2;go_ret;rw[hv.out];exact⟨A2,c2,rfl,ho,hu⟩
 ·have dZ:ZY out.length i=false:=by simpa using hb
  have hv:=Qh (show Zbv mask out i=[] by unfold Zbv;rw[if_neg hb]);rw[dZ]at HN;clear hb dZ h hk;go_enter Tryz.func131,Tryz.ntmps131;go_wp2_with fail;refine(HN.out).mono ?_;rintro e w1 ⟨rfl,rfl⟩;go_wp2;go_ret;rw[hv.out];exact Zf8 _ _ (Il _ _)
theorem Zxu(h:GIs w G g out inn n ob ib oh ih base)(hk:ZgS inn)(i mask:Int):Calls Tryz.prog 251 #[.pointer (some ⟨g,0,none⟩),Qi i,Qi mask] w (Zcs w (Zbv mask inn i)):=by
 have HN:=Qh (Zln h i);have au:=h.len
 by_cases hb:ZY out.length i=true
 ·have dZ:=hb;simp only[ZY,Hj,Gw]at dZ;obtain⟨j,rfl⟩:∃j:Nat,i=(j:Int):=⟨i.toNat,by omega⟩;have hj:j<inn.length:=by omega
  obtain⟨A,c,dL,ae⟩:=h.ri.2 j hj;have hv:=Qh (show Zbv mask inn (j:Int)=Zee mask inn[j] by unfold Zbv;rw[au,if_pos hb];simp[Qg hj]);have c0:=h.blk.cell 1;have c1:w.cell? ⟨ib,j,none⟩=some (.slice A inn[j].length c):=by rw[h.ib_.cell j];exact dL
  have hc:=Qh (Zt9 _ w mask A c inn[j] (Zef ae) (hk _ (Hg hj)) (Nat.le_trans (h.few.2.2 _ (Hg hj)) (by omega)));have k1:(0:Int)<=(j:Int):=Qn _;have k2:(j:Int)<(out.length:Int):=by omega
  simp only[Qz,Qs]at c0;rw[hb]at HN;clear hb dZ dL ae h hk au;go_enter Tryz.func251,Tryz.ntmps251;go_wp2_with fail;refine(HN.out).mono ?_;rintro e w1 ⟨rfl,rfl⟩;go_wp2_with fail;refine(hc.out).mono ?_;rintro e w2 ⟨A2,c2,rfl,ho,hu⟩;go_wp2;go_ret;rw[hv.out];exact⟨A2,c2,rfl,ho,hu⟩
 ·have dZ:ZY out.length i=false:=by simpa using hb
  have hv:=Qh (show Zbv mask inn i=[] by unfold Zbv;rw[au,if_neg hb]);rw[dZ]at HN;clear hb dZ h hk au;go_enter Tryz.func251,Tryz.ntmps251;go_wp2_with fail;refine(HN.out).mono ?_;rintro e w1 ⟨rfl,rfl⟩;go_wp2;go_ret;rw[hv.out];exact Zf8 _ _ (Il _ _)
end
/- Digraphs:the arcs that go out of a node. -/
theorem Zey:SlT Tryz.prog 115 119 4 32:=SlT.mk_ Tryz.underlying115 (z:= .agg #[Qi 0,Qi 0,Qi 0,Qi 0]) (by kernel_rfl) rfl (by omega)
def Za4(l:List HArc):Ip:=(l.map HArc.cells).flatten
def Zm5(w:I0)(l:List HArc)(e:Ending)(w':I0):Prop:=∃A c,e= .returned (.slice A l.length c)∧w'.ownsRow w.heap.size 119 4 (.slice A l.length c) l.length (Za4 l)∧Upd No w w'
def ZcT(mask i:Int)(l:Iq):List HArc:=(l.filter fun e=>Zf mask e.kind).map fun e=>⟨i,e.node,e.kind,e.label⟩
theorem Zqt{mask i:Int}{l:Iq}{k:Nat}{x:DEnd}(hk:k<l.length)(hx:l[k]=x)(hr:Zf mask x.kind=true):ZcT mask i (l.take (k+1))=ZcT mask i (l.take k)++[⟨i,x.node,x.kind,x.label⟩]:=by
 subst hx;unfold ZcT;rw[Gb hk,List.filter_append,Hu,List.filter_cons_of_pos (by rw[hr])];rfl
theorem ZsD{mask i:Int}{l:Iq}{k:Nat}{x:DEnd}(hk:k<l.length)(hx:l[k]=x)(hr:Zf mask x.kind=false):ZcT mask i (l.take (k+1))=ZcT mask i (l.take k):=by
 subst hx;unfold ZcT;rw[Gb hk,List.filter_append,Hu,List.filter_cons_of_neg (by rw[hr];decide)];simp
theorem Zlf(l:List HArc):(Za4 l).length=l.length*4:=by
 unfold Za4
 induction l with
 |nil=>rfl
 |cons a l ih=>simp only[Id,List.flatten_cons,Gt,G1,ih];simp[HArc.cells];omega
def Zfq(mask:Int)(ls:List (Iq))(i:Int):List HArc:=match (if ZY ls.length i then ls[i.toNat]? else none)with|some l=>ZcT mask i l|none=>[]
section
variable {w:I0} {G:Iw} {g:Nat} {out inn:List (Iq)} {n:Int} {ob ib:Nat} {oh ih:Ip} {base:Nat}
theorem Zyg(h:GIs w G g out inn n ob ib oh ih base)(rh:ZgS out)(i mask:Int):Calls Tryz.prog 222 #[.pointer (some ⟨g,0,none⟩),Qi i,Qi mask] w (Zm5 w (Zfq mask out i)):=by
 have HN:=Qh (Zln h i)
 by_cases hb:ZY out.length i=true
 ·have dZ:=hb;simp only[ZY,Hj,Gw]at dZ;obtain⟨j,rfl⟩:∃j:Nat,i=(j:Int):=⟨i.toNat,by omega⟩;have hj:j<out.length:=by omega
  obtain⟨A,c,dL,ep⟩:=h.ro.2 j hj;have hv:=Qh (show Zfq mask out (j:Int)=ZcT mask j out[j] by unfold Zfq;rw[if_pos hb];simp[Qg hj]);have c0:=h.blk.cell 0;have c1:w.cell? ⟨ob,j,none⟩=some (.slice A out[j].length c):=by rw[h.ob_.cell j];exact dL
  have Ah:=Zef ep;have gC:=rh _ (Hg hj);have hl:out[j].length<=1000000:=Nat.le_trans (h.few.2.1 _ (Hg hj)) (by omega);obtain⟨l,Bv⟩:=Qe (out[j]);rw[Bv]at Ah gC hl hv c1;have k1:(0:Int)<=(j:Int):=Qn _;have k2:(j:Int)<(out.length:Int):=by omega
  simp only[Qz]at c0;rw[hb]at HN;clear hb dZ dL ep h rh Bv;go_enter Tryz.func222,Tryz.ntmps222;go_wp2_with fail;refine(HN.out).mono ?_;rintro e w1 ⟨rfl,rfl⟩;go_wp2
  go_loopg [7,23] l.length (fun gk s i wr=>∃(k:Nat) (A5:OA) (c5:Nat) (xs:List HArc),k+gk=l.length∧i= Qi k∧s= .slice A5 xs.length c5∧Hid (xs=ZcT mask j (l.take k))∧xs.length<=k∧
   wr.ownsRow w.heap.size 119 4 (.slice A5 xs.length c5) xs.length (Za4 xs)∧Upd No w wr)
  case atStart=>exact⟨0,none,0,[],by omega,rfl,rfl,Qh (by simp[ZcT]),by simp,Ik _ _ _ _,Il _ _⟩
  case round=>
   obtain⟨k,A5,c5,xs,aI,rfl,rfl,cZ,hxl,ae,hu⟩:=hrel
   by_cases hlt:k<l.length
   ·obtain⟨ad,aH,q0,q1,q2⟩:=(Ah.upd hu Qo).at_ hlt;obtain⟨hk1,hk2⟩:=gC _ (Hg hlt);obtain⟨x,hx⟩:=Qe (l[k]);rw[hx]at q0 q1 q2 hk1 hk2;subst aH;have X:=Qh hx;clear hx;have b1:(0:Int)<=(k:Int):=Qn _;have b2:(k:Int)<(l.length:Int):=by omega
    have uA:=(Il No wr).alloc (.cells #[Qi x.kind,Qi x.label,Qi x.node] 160);have bo:=Im wr 160 [Qi x.kind,Qi x.label,Qi x.node];have aM:=Za ae uA Qo;have g0:=bo.cell 0;simp only[Qz]at g0;have dv:=Qh (fun W=>Zwo W mask x.kind hk1 hk2)
    cases hr:Zf mask x.kind
    ·rw[hr]at dv;have HS:=Qh (ZsD (i:=(j:Int)) hlt X.out hr);clear hr;go_wp2_with fail;refine Ck (dv.out _) fun w1 hu1=>?_;have ie:=Qh ((hu.trans uA).trans hu1);have aD:=Za aM hu1 Qo;clear aM uA hu1;go_wp2;go_roundg (gk-1);exact⟨k+1,A5,c5,xs,by omega,by go_num,rfl,Qh (by rw[HS.out,cZ.out]),by omega,aD,ie.out⟩;omega
    ·rw[hr]at dv;have HS:=Qh (Zqt (i:=(j:Int)) hlt X.out hr);clear hr;go_wp2_with fail;refine Ck (dv.out _) fun w1 hu1=>?_;have bo1:=bo.upd hu1 id;obtain⟨g1,g2,g3⟩:=bo1.c3;have aD:=Za aM hu1 Qo;have fG:=(uA.trans hu1).size;have iX:=hu.size;have ie:=Qh ((hu.trans uA).trans hu1);have HL:=Qh (Zlf xs);clear aM uA hu1 bo1;go_wp2_with (at_builtin;refine ZbG rfl rfl Zey (v:= .slice A5 xs.length c5) (cells:=[Qi (j:Int),Qi x.node,Qi x.kind,Qi x.label]) (by rfl) rfl aD rfl rfl (by omega) (by omega) (by omega) ?_;intro g' c' w2 aQ hu3 gd qq);go_roundg (gk-1)
     case measure=>omega
     case rel=>
      refine⟨k+1,some ⟨g',0,none⟩,c',xs++[⟨j,x.node,x.kind,x.label⟩],by omega,by go_num,by simp,Qh (by rw[HS.out,cZ.out]),by simp;omega,by simpa[Za4,HArc.cells]using aQ,ie.out.then_ hu3 fun i e=>?_⟩;exact .inr (aD.lt i e).1
   ·obtain rfl:k=l.length:=by omega
    have Hx:=Qh (show ZcT mask j l=xs by rw[cZ.out,G7]);clear cZ;go_wp2;go_ret;rw[hv.out,Hx.out];exact⟨A5,c5,rfl,ae,hu⟩
 ·have dZ:ZY out.length i=false:=by simpa using hb
  have hv:=Qh (show Zfq mask out i=[] by unfold Zfq;rw[if_neg hb]);rw[dZ]at HN;clear hb dZ h rh;go_enter Tryz.func222,Tryz.ntmps222;go_wp2_with fail;refine(HN.out).mono ?_;rintro e w1 ⟨rfl,rfl⟩;go_wp2;go_ret;rw[hv.out];exact⟨none,0,rfl,Ik _ _ _ _,Il _ _⟩
end
/- Digraphs:all arcs. -/
theorem ZvA(l:List HArc):∀r∈l.map HArc.cells,r.length=4:=by
 intro r hr;rw[Ih]at hr;obtain⟨a,_,rfl⟩:=hr;rfl
section
variable {w:I0} {G:Iw} {g:Nat} {out inn:List (Iq)} {n:Int} {ob ib:Nat} {oh ih:Ip} {base:Nat}
end
/- Digraphs:lists of arcs;when two are one. -/
def ArcsL(F:Iw)(w:I0)(A:OA)(l:List HArc):Prop:=Recs F w A 4 (l.map HArc.cells)
theorem ArcsL.at_{F:Iw}{w:I0}{A:OA}{l:List HArc}(h:ArcsL F w A l){k:Nat}(hk:k<l.length):∃ad,A=some ad∧
  w.cell? (ad.add (k*4))=some (Qi l[k].f)∧w.cell? ⟨(ad.add (k*4)).block,(ad.add (k*4)).off+1,none⟩=some (Qi l[k].t)∧
  w.cell? ⟨(ad.add (k*4)).block,(ad.add (k*4)).off+2,none⟩=some (Qi l[k].kind)∧w.cell? ⟨(ad.add (k*4)).block,(ad.add (k*4)).off+3,none⟩=some (Qi l[k].label):=by
 have dJ:k<(l.map HArc.cells).length:=by simpa using hk
 obtain⟨ad,e,_,_,hc⟩:=Recs.at_ h dJ;rw[G8]at hc;exact⟨ad,e,by simpa using hc 0 _ rfl,by simpa using hc 1 _ rfl,by simpa using hc 2 _ rfl,by simpa using hc 3 _ rfl⟩
theorem ArcsL.upd{F S:Iw}{w w':I0}{A:OA}{l:List HArc}(h:ArcsL F w A l)(k:Upd S w w')(hn:∀i,F i->¬S i):ArcsL F w' A l:=Recs.upd h k hn
/- The document's digraph:the order of arcs;how many nodes there may be. -/
def Zbi(a b:HArc):Bool:=if a.f=b.f then (if a.kind=b.kind then (if a.label=b.label then decide (a.t<b.t) else decide (a.label<b.label)) else decide (a.kind<b.kind)) else decide (a.f<b.f)
/- A nil digraph. -/
theorem Zoh(w:I0):CE 129 #[.pointer none] w (Qi 0):=by
 go_enter Tryz.func129,Tryz.ntmps129;go_wp2;go_ret;exact⟨rfl,rfl⟩
theorem Zjo(w:I0)(i:Int):CE 180 #[.pointer none,Qi i] w (.bool false):=by
 have HN:=Qh (Zoh w)
 by_cases h0:0<=i
 ·have hb:decide (i<0)=false:=Qf (by omega);go_enter Tryz.func180,Tryz.ntmps180;go_wp2_with fail;refine(HN.out).mono ?_;rintro e w1 ⟨rfl,rfl⟩;go_wp2;go_ret;exact⟨by simp,rfl⟩
 ·have hb:decide (0<=i)=false:=Qf h0;clear h0;go_enter Tryz.func180,Tryz.ntmps180;go_wp2;go_ret;exact⟨rfl,rfl⟩
theorem Zwp(w:I0)(i mask:Int):Calls Tryz.prog 131 #[.pointer none,Qi i,Qi mask] w (Zcs w []):=by
 have HN:=Qh (Zjo w i);go_enter Tryz.func131,Tryz.ntmps131;go_wp2_with fail;refine(HN.out).mono ?_;rintro e w1 ⟨rfl,rfl⟩;go_wp2;go_ret;exact Zf8 _ _ (Il _ _)
theorem Zvn(w:I0)(a:HArc):CN 125 #[.pointer none,.agg a.cells.toArray] w (.bool false):=by
 have HN:=Qh (fun W=>Zjo W a.f);have U0:=Qh ((Il No w).alloc (.cells a.cells.toArray 119));unfold HArc.cells at*;go_enter Tryz.func125,Tryz.ntmps125;go_wp2_with fail;refine(HN.out _).mono ?_;rintro e w1 ⟨rfl,rfl⟩;go_wp2;go_ret;exact⟨rfl,U0.out⟩
theorem ZxD(w:I0)(a:HArc):CN 78 #[.pointer none,.agg a.cells.toArray] w (Qi 1):=by
 have HN:=Qh (fun W=>Zvn W a);have U0:=Qh ((Il No w).alloc (.cells a.cells.toArray 119));unfold HArc.cells at*;go_enter Tryz.func78,Tryz.ntmps78;go_wp2_with fail;refine Ck (HN.out _) fun w1 hu=>?_;have HU:=Qh (U0.out.trans hu);clear hu;go_wp2;go_ret;exact⟨rfl,HU.out⟩
/- Whether a number is among some. -/
theorem Zt3(w:I0)(F:Iw)(A:OA)(c:Nat)(l:Iv)(a:Int)(h:Ints F w A l)(hl:l.length<=4398046511103):
  CE 15 #[.slice A l.length c,Qi a] w (.bool (decide (a∈l))):=by
 go_enter Tryz.func15,Tryz.ntmps15;go_wp2
 go_loopg [9] l.length (fun gk i wr=>∃k:Nat,k+gk=l.length∧i= Qi k∧Hid (decide (a∈l)=decide (a∈l.drop k))∧w=wr)
 case atStart=>exact⟨0,by omega,rfl,Qh (by simp),rfl⟩
 case round=>
  obtain⟨k,aI,rfl,hs,rfl⟩:=hrel
  by_cases hlt:k<l.length
  ·obtain⟨ax,rfl,pQ⟩:=h.at_ hlt;obtain⟨x,hx⟩:=Qe (l[k]);have hd:=Qh (show l.drop k=x::l.drop (k+1) by rw[<-hx];exact Ge hlt);rw[hx]at pQ;have b1:(0:Int)<=(k:Int):=Qn _;have b2:(k:Int)<(l.length:Int):=by omega
   clear hx
   by_cases he:x=a
   ·have eO:(x==a)=true:=by rw[he];simp
    have He:=Qh he;clear he;go_wp2;go_ret;exact⟨by rw[hs.out,hd.out,He.out];simp,rfl⟩
   ·have eO:(x==a)=false:=by simpa using he
    have He:=Qh he;clear he;go_wp2;go_roundg (gk-1)
    case measure=>omega
    case rel=>
     refine⟨k+1,by omega,by go_num,Qh ?_,rfl⟩;rw[hs.out,hd.out];have:=He.out;simp only[Ie,decide_eq_decide];exact⟨fun e=>e.elim (fun e=>absurd e.symm this) id,.inr⟩
  ·obtain rfl:k=l.length:=by omega
   go_wp2;go_ret;exact⟨by rw[hs.out,G9];simp,rfl⟩
/- Digraphs,plain:arcs in order,and the rows that hold them. -/
/-! lists in strict order -/
theorem ZlP{l m:Iv}(hl:l.Pairwise (·<·))(hm:m.Pairwise (·<·))(h:∀x,x∈l↔x∈m):l=m:=
 ZeT (r:=(·<·)) (fun a=>by omega) (fun a b c=>by omega) hl hm h
theorem Zdv(a b:HArc):Zbi a b=true↔a.f<b.f∨(a.f=b.f∧(a.kind<b.kind∨(a.kind=b.kind∧(a.label<b.label∨(a.label=b.label∧a.t<b.t))))):=by
 unfold Zbi
 split
 ·split
  ·split
   ·simp_all
   ·simp_all
  ·simp_all
 ·simp_all
theorem Zb0(a:HArc):¬Zbi a a=true:=by rw[Zdv];omega
theorem Zc8(a b c:HArc)(h:Zbi a b=true)(k:Zbi b c=true):Zbi a c=true:=by rw[Zdv]at*;omega
theorem ZkI(a b:HArc)(h:¬Zbi a b=true)(k:a≠b):Zbi b a=true:=by
 rw[Zdv]at*
 have:¬(a.f=b.f∧a.kind=b.kind∧a.label=b.label∧a.t=b.t):=by
  rintro⟨e1,e2,e3,e4⟩;obtain⟨af,at',ak,al⟩:=a;obtain⟨bf,bt,bk,bl⟩:=b;simp only at e1 e2 e3 e4;subst e1 e2 e3 e4;exact k rfl
 omega
def Zad(q:List HArc):Prop:=q.Pairwise fun a b=>Zbi a b=true
theorem ZoB{l m:List HArc}(hl:Zad l)(hm:Zad m)(h:∀x,x∈l↔x∈m):l=m:=ZeT Zb0 Zc8 hl hm h
def Zc1(a:HArc):List HArc->List HArc
 |[]=>[a]
 |x::l=>if Zbi x a=true then x::Zc1 a l else a::(x::l).filter (fun y=> !(y==a))
theorem ZbI(a b:HArc):∀l,b∈Zc1 a l↔b=a∨b∈l
 |[]=>by simp[Zc1]
 |x::l=>by
  have ih:=ZbI a b l;unfold Zc1
  split
  ·simp only[Ie,ih];grind
  ·rw[Ie,Hy]
   by_cases h:b=a<;>simp[h]
theorem Zd7(a:HArc):∀l,Zad l->Zad (Zc1 a l)
 |[],_=>by simp[Zc1,Zad]
 |x::l,h=>by
  have h':=Gr.1 h;unfold Zc1
  split
  ·rename_i hx
   refine Gr.2 ⟨fun b hb=>?_,Zd7 a l h'.2⟩;rcases(ZbI a b l).1 hb with rfl|h2
   ·exact hx
   ·exact h'.1 b h2
  ·rename_i hx
   refine Gr.2 ⟨fun b hb=>?_,h.filter _⟩;rw[Hy]at hb;have h1:b≠a:=by simpa using hb.2
   by_cases hxa:x=a
   ·subst hxa;rcases Ie.1 hb.1 with rfl|h2
    ·exact absurd rfl h1
    ·exact h'.1 b h2
   ·have h3:=ZkI x a hx hxa;rcases Ie.1 hb.1 with rfl|h2
    ·exact h3
    ·exact Zc8 _ _ _ h3 (h'.1 b h2)
theorem Zsw(a:HArc)(l:List HArc):(Zc1 a l).length<=l.length+1:=by
 induction l with
 |nil=>simp[Zc1]
 |cons x l ih=>
  unfold Zc1
  split
  ·simp only[G1]at*;omega
  ·have:=Gj (fun y=> !(y==a)) (x::l);simp only[G1]at*;omega
theorem ZlV(a:HArc):∀l,a∉l->(Zc1 a l).length=l.length+1
 |[],_=>by simp[Zc1]
 |x::l,h=>by
  have ih:=ZlV a l (fun e=>h (Gk _ e));unfold Zc1
  split
  ·simp only[G1,ih]
  ·rw[List.filter_eq_self.2 (fun y hy=>by
    have:y≠a:=fun e=>h (e▸hy)
    simpa using this)]
   simp
def nxS(node:Int)(back:Bool)(s:Iv):List HArc->List Int
 |[]=>s
 |x::l=>nxS node back (if back=true then (if x.t=node then Z3 x.f s else s) else (if x.f=node then Z3 x.t s else s)) l
def nxA(node:Int)(back:Bool)(p:List HArc):Iv:=nxS node back [] p
theorem ZeB(node:Int)(back:Bool)(v:Int):∀(l:List HArc) (s:Iv),v∈nxS node back s l↔v∈s∨∃x∈l,(if back then x.t=node∧v=x.f else x.f=node∧v=x.t)
 |[],s=>by simp[nxS]
 |x::l,s=>by
  show v∈nxS node back (if back=true then (if x.t=node then Z3 x.f s else s) else (if x.f=node then Z3 x.t s else s)) l↔_
  rw[ZeB node back v l]
  cases back
  ·by_cases h:x.f=node<;>simp[h,Za1]<;>grind
  ·by_cases h:x.t=node<;>simp[h,Za1]<;>grind
theorem ZiS(node:Int)(back:Bool):∀(l:List HArc) (s:Iv),s.Pairwise (·<·)->(nxS node back s l).Pairwise (·<·)
 |[],_,h=>h
 |x::l,s,h=>by
  show(nxS node back (if back=true then (if x.t=node then Z3 x.f s else s) else (if x.f=node then Z3 x.t s else s)) l).Pairwise (·<·)
  apply ZiS node back l
  cases back
  ·by_cases h2:x.f=node
   ·simpa[h2]using ZdS _ _ h
   ·simpa[h2]using h
  ·by_cases h2:x.t=node
   ·simpa[h2]using ZdS _ _ h
   ·simpa[h2]using h
theorem ZnO(node:Int)(back:Bool):∀(l:List HArc) (s:Iv),(nxS node back s l).length<=s.length+l.length
 |[],s=>by simp[nxS]
 |x::l,s=>by
  show(nxS node back (if back=true then (if x.t=node then Z3 x.f s else s) else (if x.f=node then Z3 x.t s else s)) l).length<=_
  have:=ZnO node back l (if back=true then (if x.t=node then Z3 x.f s else s) else (if x.f=node then Z3 x.t s else s));have h1:=ZhR x.f s;have h2:=ZhR x.t s
  have:(if back=true then (if x.t=node then Z3 x.f s else s) else (if x.f=node then Z3 x.t s else s)).length<=s.length+1:=by
   split<;>split<;>omega
  simp only[G1];omega
/-! rows of ends -/
theorem ZtC(a b:DEnd)(h:¬Zbb a b<0)(k:a≠b):Zbb b a<0:=by
 rw[Zj5]at*
 have:¬(a.kind=b.kind∧a.label=b.label∧a.node=b.node):=by
  rintro⟨e1,e2,e3⟩;obtain⟨ak,al,an⟩:=a;obtain⟨bk,bl,bn⟩:=b;simp only at e1 e2 e3;subst e1 e2 e3;exact k rfl
 omega
theorem Zmc(l:Iq)(e x:DEnd):x∈Zfm l e↔x=e∨x∈l:=by
 unfold Zfm Zcv;have:=List.take_append_drop (Zbs l e) l;have h2:x∈l↔x∈l.take (Zbs l e)∨x∈l.drop (Zbs l e):=by rw[<-Ib,this]
 rw[h2];simp only[Ib,Gq]
 grind
theorem Znm{l:Iq}{p:Nat}{x:DEnd}(h:x∈l.take p):∃k,∃hk:k<l.length,k<p∧l[k]=x:=by
 obtain⟨k,hk,rfl⟩:=Gl.1 h;rw[Hm]at hk;exact⟨k,by omega,by omega,by simp⟩
theorem Znn{l:Iq}{p:Nat}{x:DEnd}(h:x∈l.drop p):∃k,∃hk:k<l.length,p<=k∧l[k]=x:=by
 obtain⟨k,hk,rfl⟩:=Gl.1 h;rw[G5]at hk;exact⟨p+k,by omega,by omega,by simp⟩
theorem Zkm{l:Iq}(h:ZdE l){e:DEnd}(hn:e∉l):ZdE (Zfm l e):=by
 have hp:=ZcS h e;unfold Zfm Zcv ZdE;rw[Gm,Gm];have h1:(l.take (Zbs l e)++l.drop (Zbs l e)).Pairwise fun a b=>Zbb a b<0:=by rw[List.take_append_drop];exact h
 rw[Gm]at h1
 have hd:∀x∈l.drop (Zbs l e),Zbb e x<0:=fun x hx=>by
  obtain⟨k,hk,lu,rfl⟩:=Znn hx;exact ZtC _ _ (fun e2=>by have:=(hp.2 k hk).1 e2;omega) (fun e2=>hn (e2▸Hg hk))
 have ht:∀x∈l.take (Zbs l e),Zbb x e<0:=fun x hx=>by
  obtain⟨k,hk,lu,rfl⟩:=Znm hx;exact(hp.2 k hk).2 lu
 refine⟨⟨h1.1,List.pairwise_singleton _ _,fun a ha b hb=>?_⟩,h1.2.1,fun a ha b hb=>?_⟩
 ·rw[Gq]at hb;subst hb;exact ht a ha
 ·rcases Ib.1 ha with ha|ha
  ·exact h1.2.2 a ha b hb
  ·rw[Gq]at ha;subst ha;exact hd b hb
/- Digraphs,plain:the rows hold just the arcs,whatever is added and dropped. -/
theorem ZQ(N:Nat)(a:HArc):Zo N a=true↔0<=a.f∧a.f<(N:Int)∧0<=a.t∧a.t<(N:Int)∧1<=a.kind∧a.kind<=3∧0<=a.label∧a.label<=1048575:=by
 simp only[Zo,ZY,Hj,Gw,and_assoc]
theorem ZbW(i n k l:Int)(a:HArc):(⟨i,n,k,l⟩:HArc)=a↔i=a.f∧n=a.t∧k=a.kind∧l=a.label:=by
 obtain⟨af,at',ak,al⟩:=a;simp
theorem Zoi(e:DEnd)(k l n:Int):e=⟨k,l,n⟩↔e.kind=k∧e.label=l∧e.node=n:=by
 obtain⟨ek,el,en⟩:=e;simp
structure DOk (N K:Nat) (q:List HArc) (out inn:List (List DEnd)):Prop where
 s:Zad q
 r:∀a∈q,Zo N a=true
 lo:out.length=N
 li:inn.length=N
 so:∀l∈out,ZdE l
 si:∀l∈inn,ZdE l
 mo:∀(i:Nat) l,out[i]? =some l->∀e:DEnd,e∈l↔(⟨i,e.node,e.kind,e.label⟩:HArc)∈q
 mi:∀(i:Nat) l,inn[i]? =some l->∀e:DEnd,e∈l↔(⟨e.node,i,e.kind,e.label⟩:HArc)∈q
 fo:∀l∈out,l.length<=K
 fi:∀l∈inn,l.length<=K
 fq:q.length<=K
def Zcq(N:Nat)(q:List HArc)(a:HArc):List HArc:=if Zo N a=true then (if a∈q then q else Zc1 a q) else q
def Zir(N:Nat)(q:List HArc)(a:HArc):Int:=if Zo N a=true then (if a∈q then 4 else 0) else 1
theorem Zes{α:Type}{l:List α}{f:α->α}{i:Nat}{x:α}(h:x∈l.modify i f):x∈l∨∃y∈l,l[i]? =some y∧x=f y:=by
 obtain⟨k,hk,rfl⟩:=Gl.1 h;rw[List.length_modify]at hk;rw[List.getElem_modify]
 split
 ·next e=>subst e;exact .inr ⟨l[i],Hg hk,Qg hk,rfl⟩
 ·exact .inl (Hg hk)
theorem ZhC{l m:List (Iq)}{f:Iq->Iq}{i k:Nat}{r:Iq}(h:(l.modify i f)[k]? =some r):(k=i∧∃s,l[k]? =some s∧r=f s)∨(k≠i∧l[k]? =some r):=by
 rw[List.getElem?_modify]at h
 by_cases e:i=k
 ·subst e;simp only[if_true,Option.map_eq_map,Option.map_eq_some_iff]at h;obtain⟨s,h1,rfl⟩:=h;exact .inl ⟨rfl,s,h1,rfl⟩
 ·simp only[if_neg e]at h;exact .inr ⟨fun e2=>e e2.symm,by simpa using h⟩
theorem DOk.nil(N:Nat):DOk N 0 [] (List.replicate N []) (List.replicate N []):=by
 have hm:∀l∈List.replicate N ([]:Iq),l=[]:=fun l h=>(List.mem_replicate.1 h).2
 have hg:∀(i:Nat) l,(List.replicate N ([]:Iq))[i]? =some l->l=[]:=fun i l h=>hm l (Gn h)
 exact⟨List.Pairwise.nil,by simp,by simp,by simp,fun l h=>by rw[hm l h];exact List.Pairwise.nil,fun l h=>by rw[hm l h];exact List.Pairwise.nil,
  fun i l h e=>by rw[hg i l h];simp,fun i l h e=>by rw[hg i l h];simp,fun l h=>by rw[hm l h];simp,fun l h=>by rw[hm l h];simp,by simp⟩
section
variable {N K:Nat} {q:List HArc} {out inn:List (Iq)}
theorem DOk.mono(h:DOk N K q out inn){K':Nat}(hk:K<=K'):DOk N K' q out inn:=
 {h with fo:=fun l hl=>Nat.le_trans (h.fo l hl) hk,fi:=fun l hl=>Nat.le_trans (h.fi l hl) hk,fq:=Nat.le_trans h.fq hk}
theorem DOk.has(h:DOk N K q out inn)(a:HArc):ZeR out a=decide (a∈q):=by
 unfold ZeR;rw[h.lo]
 by_cases hr:Zo N a=true
 ·obtain⟨i,j,e1,e2,hi,hj⟩:=Zd5 hr;have cR:i<out.length:=by rw[h.lo];exact hi
  rw[hr,e1];simp only[Int.toNat_natCast,Qg cR,Bool.true_and];rw[decide_eq_decide,h.mo i _ (Qg cR)];have:(⟨(i:Int),(ZcF a).node,(ZcF a).kind,(ZcF a).label⟩:HArc)=a:=by rw[ZbW];exact⟨e1.symm,rfl,rfl,rfl⟩
  rw[this]
 ·have hn:a∉q:=fun e=>hr (h.r a e)
  have hf:Zo N a=false:=by simpa using hr
  rw[hf,Qf hn];rfl
theorem DOk.addW_(h:DOk N K q out inn)(a:HArc):Zej out a=Zir N q a:=by
 unfold Zej Zir;rw[h.has a,h.lo];simp only[Gw]
theorem Zkn{l:Iq}(h:ZdE l)(e:DEnd):(Zfm l e).length=l.length+1:=Zsv l e (ZcS h e)
theorem DOk.add(h:DOk N K q out inn)(a:HArc):DOk N (K+1) (Zcq N q a) (Zgs out a) (Zgu out inn a):=by
 unfold Zgs Zgu Zcq;rw[h.addW_ a];unfold Zir
 by_cases hr:Zo N a=true
 ·by_cases hm:a∈q
  ·simp only[if_pos hr,if_pos hm,if_neg (show¬(4:Int)=0 by decide)];exact h.mono (by omega)
  ·simp only[if_pos hr,if_neg hm,if_true];obtain⟨i,j,e1,e2,hi,hj⟩:=Zd5 hr;have cR:i<out.length:=by rw[h.lo];exact hi
   have sH:j<inn.length:=by rw[h.li];exact hj
   rw[e1,e2];simp only[Int.toNat_natCast]
   have ao:∀s,out[i]? =some s->ZcF a∉s:=fun s hs=>by
    rw[h.mo i s hs];have:(⟨(i:Int),(ZcF a).node,(ZcF a).kind,(ZcF a).label⟩:HArc)=a:=by rw[ZbW];exact⟨e1.symm,rfl,rfl,rfl⟩
    rw[this];exact hm
   have ai:∀s,inn[j]? =some s->inE a∉s:=fun s hs=>by
    rw[h.mi j s hs];have:(⟨(inE a).node,(j:Int),(inE a).kind,(inE a).label⟩:HArc)=a:=by rw[ZbW];exact⟨rfl,e2.symm,rfl,rfl⟩
    rw[this];exact hm
   constructor
   case s=>exact Zd7 a q h.s
   case r=>
    intro b hb;rcases(ZbI a b q).1 hb with rfl|hb
    ·exact hr
    ·exact h.r b hb
   case lo=>simpa using h.lo
   case li=>simpa using h.li
   case so=>
    intro l hl;rcases Zes hl with hl|⟨y,hy,fE,rfl⟩
    ·exact h.so l hl
    ·exact Zkm (h.so y hy) (ao y fE)
   case si=>
    intro l hl;rcases Zes hl with hl|⟨y,hy,fE,rfl⟩
    ·exact h.si l hl
    ·exact Zkm (h.si y hy) (ai y fE)
   case mo=>
    intro k l hl e;rcases ZhC (m:=[]) hl with ⟨rfl,s,hs,rfl⟩|⟨hne,hl⟩
    ·rw[Zmc,ZbI,h.mo k s hs,ZbW,show ZcF a=⟨a.kind,a.label,a.t⟩ from rfl,Zoi]
     constructor
     ·rintro(⟨x1,x2,x3⟩|x)
      ·exact .inl ⟨e1.symm,x3,x1,x2⟩
      ·exact .inr x
     ·rintro(⟨_,x1,x2,x3⟩|x)
      ·exact .inl ⟨x2,x3,x1⟩
      ·exact .inr x
    ·rw[ZbI,h.mo k l hl,ZbW]
     constructor
     ·exact .inr
     ·rintro(⟨x,_⟩|x)
      ·exact absurd (by omega) hne
      ·exact x
   case mi=>
    intro k l hl e;rcases ZhC (m:=[]) hl with ⟨rfl,s,hs,rfl⟩|⟨hne,hl⟩
    ·rw[Zmc,ZbI,h.mi k s hs,ZbW,show inE a=⟨a.kind,a.label,a.f⟩ from rfl,Zoi]
     constructor
     ·rintro(⟨x1,x2,x3⟩|x)
      ·exact .inl ⟨x3,e2.symm,x1,x2⟩
      ·exact .inr x
     ·rintro(⟨x1,_,x2,x3⟩|x)
      ·exact .inl ⟨x2,x3,x1⟩
      ·exact .inr x
    ·rw[ZbI,h.mi k l hl,ZbW]
     constructor
     ·exact .inr
     ·rintro(⟨_,x,_⟩|x)
      ·exact absurd (by omega) hne
      ·exact x
   case fo=>
    intro l hl;rcases Zes hl with hl|⟨y,hy,fE,rfl⟩
    ·have:=h.fo l hl;omega
    ·have:=h.fo y hy;rw[Zkn (h.so y hy)];omega
   case fi=>
    intro l hl;rcases Zes hl with hl|⟨y,hy,fE,rfl⟩
    ·have:=h.fi l hl;omega
    ·have:=h.fi y hy;rw[Zkn (h.si y hy)];omega
   case fq=>
    have:=Zsw a q;have:=h.fq;omega
 ·simp only[if_neg hr,if_neg (show¬(1:Int)=0 by decide)];exact h.mono (by omega)
theorem DOk.addN_(h:DOk N K q out inn)(a:HArc):Zgt out (q.length:Int) a=((Zcq N q a).length:Int):=by
 unfold Zgt Zcq;rw[h.addW_ a];unfold Zir
 by_cases hr:Zo N a=true
 ·by_cases hm:a∈q
  ·simp[hr,hm]
  ·simp only[if_pos hr,if_neg hm,if_true,ZlV a q hm];omega
 ·simp[hr]
theorem DOk.ko(h:DOk N K q out inn):ZgS out:=fun l hl e he=>by
 obtain⟨i,hi,rfl⟩:=Gl.1 hl;have:=h.r _ ((h.mo i _ (Qg hi) e).1 he);rw[ZQ]at this;exact⟨this.2.2.2.2.1,this.2.2.2.2.2.1⟩
theorem DOk.ki(h:DOk N K q out inn):ZgS inn:=fun l hl e he=>by
 obtain⟨i,hi,rfl⟩:=Gl.1 hl;have:=h.r _ ((h.mi i _ (Qg hi) e).1 he);rw[ZQ]at this;exact⟨this.2.2.2.2.1,this.2.2.2.2.2.1⟩
def ofA(mask:Int)(q:List HArc):List HArc:=q.filter fun x=>Zf mask x.kind
theorem mem_ofA{mask:Int}{q:List HArc}{x:HArc}:x∈ofA mask q↔x∈q∧Zf mask x.kind=true:=by unfold ofA;rw[Hy]
theorem DOk.mem_outD(h:DOk N K q out inn)(mask i:Int)(x:HArc):x∈Zfq mask out i↔x∈q∧Zf mask x.kind=true∧x.f=i:=by
 unfold Zfq
 by_cases hb:ZY out.length i=true
 ·rw[if_pos hb];simp only[ZY,Hj,Gw]at hb;obtain⟨j,rfl⟩:∃j:Nat,i=(j:Int):=⟨i.toNat,by omega⟩;have hj:j<out.length:=by omega
  simp only[Int.toNat_natCast,Qg hj];unfold ZcT;rw[Ih]
  constructor
  ·rintro⟨e,he,rfl⟩;rw[Hy]at he;exact⟨(h.mo j _ (Qg hj) e).1 he.1,he.2,rfl⟩
  ·rintro⟨h1,h2,h3⟩;refine⟨⟨x.kind,x.label,x.t⟩,?_,by rw[ZbW];exact⟨h3.symm,rfl,rfl,rfl⟩⟩;rw[Hy,h.mo j _ (Qg hj)];refine⟨?_,h2⟩;have:(⟨(j:Int),x.t,x.kind,x.label⟩:HArc)=x:=by rw[ZbW];exact⟨h3.symm,rfl,rfl,rfl⟩
   rw[this];exact h1
 ·rw[if_neg hb];simp only[G6,false_iff];rintro⟨h1,_,h3⟩;have:=(ZQ _ _).1 (h.r x h1)
  apply hb
  simp only[ZY,Hj,Gw,h.lo];omega
theorem DOk.sorted_outD(h:DOk N K q out inn)(mask i:Int):Zad (Zfq mask out i):=by
 unfold Zfq
 split
 ·next l hl=>
  split at hl
  ·have hr:=h.so l (Gn hl);unfold ZcT Zad;rw[List.pairwise_map];refine(hr.filter _).imp fun {a b} hab=>?_
   show Zbi ⟨i,a.node,a.kind,a.label⟩ ⟨i,b.node,b.kind,b.label⟩=true
   rw[Zdv];rw[Zj5]at hab
   show i<i∨(i=i∧(a.kind<b.kind∨(a.kind=b.kind∧(a.label<b.label∨(a.label=b.label∧a.node<b.node)))))
   exact .inr ⟨rfl,hab⟩
  ·cases hl
 ·exact List.Pairwise.nil
theorem DOk.outD_(h:DOk N K q out inn)(mask i:Int):Zfq mask out i=(ofA mask q).filter fun x=>x.f==i:=
 ZoB (h.sorted_outD mask i) ((h.s.filter _).filter _) fun x=>by
  rw[h.mem_outD,Hy,mem_ofA,beq_iff_eq,and_assoc]
theorem Zma(mask:Int)(ls:List (Iq))(i:Int):(Zbv mask ls i).Pairwise (·<·):=by
 unfold Zbv
 split
 ·unfold Zee;rw[ZbP];exact ZcN _
 ·exact List.Pairwise.nil
theorem Zi3(mask:Int)(l:Iq)(v:Int):v∈Zee mask l↔∃e∈l,Zf mask e.kind=true∧v=e.node:=by
 unfold Zee;rw[ZbP,ZdX];unfold ZdI;rw[Ih]
 constructor
 ·rintro⟨e,he,rfl⟩;rw[Hy]at he;exact⟨e,he.1,he.2,rfl⟩
 ·rintro⟨e,h1,h2,rfl⟩;exact⟨e,Hy.2 ⟨h1,h2⟩,rfl⟩
theorem DOk.mem_next(h:DOk N K q out inn)(mask i v:Int):v∈Zbv mask out i↔∃x∈ofA mask q,x.f=i∧v=x.t:=by
 unfold Zbv
 by_cases hb:ZY out.length i=true
 ·rw[if_pos hb];simp only[ZY,Hj,Gw]at hb;obtain⟨j,rfl⟩:∃j:Nat,i=(j:Int):=⟨i.toNat,by omega⟩;have hj:j<out.length:=by omega
  simp only[Int.toNat_natCast,Qg hj];rw[Zi3]
  constructor
  ·rintro⟨e,h1,h2,rfl⟩;exact⟨_,mem_ofA.2 ⟨(h.mo j _ (Qg hj) e).1 h1,h2⟩,rfl,rfl⟩
  ·rintro⟨x,h1,h3,rfl⟩;rw[mem_ofA]at h1;refine⟨⟨x.kind,x.label,x.t⟩,?_,h1.2,rfl⟩;rw[h.mo j _ (Qg hj)];have:(⟨(j:Int),x.t,x.kind,x.label⟩:HArc)=x:=by rw[ZbW];exact⟨h3.symm,rfl,rfl,rfl⟩
   rw[this];exact h1.1
 ·rw[if_neg hb];simp only[G6,false_iff];rintro⟨x,h1,h3,_⟩;rw[mem_ofA]at h1;have:=(ZQ _ _).1 (h.r x h1.1)
  apply hb
  simp only[ZY,Hj,Gw,h.lo];omega
theorem DOk.mem_prev(h:DOk N K q out inn)(mask i v:Int):v∈Zbv mask inn i↔∃x∈ofA mask q,x.t=i∧v=x.f:=by
 unfold Zbv
 by_cases hb:ZY inn.length i=true
 ·rw[if_pos hb];simp only[ZY,Hj,Gw]at hb;obtain⟨j,rfl⟩:∃j:Nat,i=(j:Int):=⟨i.toNat,by omega⟩;have hj:j<inn.length:=by omega
  simp only[Int.toNat_natCast,Qg hj];rw[Zi3]
  constructor
  ·rintro⟨e,h1,h2,rfl⟩;exact⟨_,mem_ofA.2 ⟨(h.mi j _ (Qg hj) e).1 h1,h2⟩,rfl,rfl⟩
  ·rintro⟨x,h1,h3,rfl⟩;rw[mem_ofA]at h1;refine⟨⟨x.kind,x.label,x.f⟩,?_,h1.2,rfl⟩;rw[h.mi j _ (Qg hj)];have:(⟨x.f,(j:Int),x.kind,x.label⟩:HArc)=x:=by rw[ZbW];exact⟨rfl,h3.symm,rfl,rfl⟩
   rw[this];exact h1.1
 ·rw[if_neg hb];simp only[G6,false_iff];rintro⟨x,h1,h3,_⟩;rw[mem_ofA]at h1;have:=(ZQ _ _).1 (h.r x h1.1)
  apply hb
  simp only[ZY,Hj,Gw,h.li];omega
theorem DOk.next_(h:DOk N K q out inn)(mask i:Int):Zbv mask out i=nxA i false (ofA mask q):=
 ZlP (Zma _ _ _) (ZiS _ _ _ _ List.Pairwise.nil) fun v=>by
  rw[h.mem_next];unfold nxA;rw[ZeB];simp
theorem DOk.prev_(h:DOk N K q out inn)(mask i:Int):Zbv mask inn i=nxA i true (ofA mask q):=
 ZlP (Zma _ _ _) (ZiS _ _ _ _ List.Pairwise.nil) fun v=>by
  rw[h.mem_prev];unfold nxA;rw[ZeB];simp
end
/- Digraphs:the contracts by the arcs alone,nil or not. -/
theorem Zwn(w:I0)(i mask:Int):Calls Tryz.prog 251 #[.pointer none,Qi i,Qi mask] w (Zcs w []):=by
 have HN:=Qh (Zjo w i);go_enter Tryz.func251,Tryz.ntmps251;go_wp2_with fail;refine(HN.out).mono ?_;rintro e w1 ⟨rfl,rfl⟩;go_wp2;go_ret;exact Zf8 _ _ (Il _ _)
theorem Zxv(w:I0)(i mask:Int):Calls Tryz.prog 222 #[.pointer none,Qi i,Qi mask] w (Zm5 w []):=by
 have HN:=Qh (Zjo w i);go_enter Tryz.func222,Tryz.ntmps222;go_wp2_with fail;refine(HN.out).mono ?_;rintro e w1 ⟨rfl,rfl⟩;go_wp2;go_ret;exact⟨none,0,rfl,Ik _ _ _ _,Il _ _⟩
def DGs(w:I0)(G:Iw)(g N K:Nat)(q:List HArc):Prop:=
 ∃out inn ob ib oh ih base,GIs w G g out inn (q.length:Int) ob ib oh ih base∧DOk N K q out inn∧base<=w.heap.size
def DG(w:I0)(G:Iw)(p:OA)(N K:Nat)(q:List HArc):Prop:=
 (p=none∧N=0∧q=[])∨∃g,p=some ⟨g,0,none⟩∧DGs w G g N K q
def DTs(w:I0)(G:Iw)(p:OA)(N K:Nat)(q:List HArc)(r:Iz)(e:Ending)(w':I0):Prop:=
 ∃G',e= .returned r∧DG w' G' p N K q∧Upd G w w'∧∀k,G' k->G k∨w.heap.size<=k
def ZxS(w:I0)(N K:Nat)(q:List HArc)(e:Ending)(w':I0):Prop:=
 ∃G g,e= .returned (.pointer (some ⟨g,0,none⟩))∧DG w' G (some ⟨g,0,none⟩) N K q∧Upd No w w'∧∀k,G k->w.heap.size<=k
section
variable {w:I0} {G:Iw} {p:OA} {N K:Nat} {q:List HArc}
theorem DG.upd(h:DG w G p N K q){S:Iw}{w':I0}(k:Upd S w w')(hn:∀i,G i->¬S i):DG w' G p N K q:=by
 rcases h with h|⟨g,rfl,out,inn,ob,ib,oh,ih,base,h1,h2,h3⟩
 ·exact .inl h
 ·exact .inr ⟨g,rfl,out,inn,ob,ib,oh,ih,base,h1.upd k hn,h2,Nat.le_trans h3 k.size⟩
theorem DG.no(h:DG w G p N K q){w':I0}(k:Upd No w w'):DG w' G p N K q:=h.upd k fun _ _=>id
theorem DG.sorted(h:DG w G p N K q):Zad q:=by
 rcases h with ⟨_,_,rfl⟩|⟨g,rfl,out,inn,ob,ib,oh,ih,base,h1,h2,h3⟩
 ·exact List.Pairwise.nil
 ·exact h2.s
theorem DG.right(h:DG w G p N K q):∀a∈q,Zo N a=true:=by
 rcases h with ⟨_,_,rfl⟩|⟨g,rfl,out,inn,ob,ib,oh,ih,base,h1,h2,h3⟩
 ·simp
 ·exact h2.r
theorem DG.few(h:DG w G p N K q):q.length<=K:=by
 rcases h with ⟨_,_,rfl⟩|⟨g,rfl,out,inn,ob,ib,oh,ih,base,h1,h2,h3⟩
 ·simp
 ·exact h2.fq
theorem DG.nodes_le(h:DG w G p N K q):N<=4096:=by
 rcases h with ⟨_,rfl,rfl⟩|⟨g,rfl,out,inn,ob,ib,oh,ih,base,h1,h2,h3⟩
 ·omega
 ·have:=h1.few.1;have:=h2.lo;omega
theorem ZfH(h:DG w G p N K q):CE 129 #[.pointer p] w (Qi (N:Int)):=by
 rcases h with ⟨rfl,rfl,rfl⟩|⟨g,rfl,out,inn,ob,ib,oh,ih,base,h1,h2,h3⟩
 ·exact Zoh w
 ·rw[<-h2.lo];exact Zrr h1
theorem Zwq(h:DG w G p N K q)(i mask:Int):Calls Tryz.prog 131 #[.pointer p,Qi i,Qi mask] w (Zcs w (nxA i false (ofA mask q))):=by
 rcases h with ⟨rfl,rfl,rfl⟩|⟨g,rfl,out,inn,ob,ib,oh,ih,base,h1,h2,h3⟩
 ·exact Zwp w i mask
 ·rw[<-h2.next_];exact Zxw h1 h2.ko i mask
theorem ZmP(h:DG w G p N K q)(i mask:Int):Calls Tryz.prog 251 #[.pointer p,Qi i,Qi mask] w (Zcs w (nxA i true (ofA mask q))):=by
 rcases h with ⟨rfl,rfl,rfl⟩|⟨g,rfl,out,inn,ob,ib,oh,ih,base,h1,h2,h3⟩
 ·exact Zwn w i mask
 ·rw[<-h2.prev_];exact Zxu h1 h2.ki i mask
theorem Zub(h:DG w G p N K q)(i mask:Int):Calls Tryz.prog 222 #[.pointer p,Qi i,Qi mask] w (Zm5 w ((ofA mask q).filter fun x=>x.f==i)):=by
 rcases h with ⟨rfl,rfl,rfl⟩|⟨g,rfl,out,inn,ob,ib,oh,ih,base,h1,h2,h3⟩
 ·exact Zxv w i mask
 ·rw[<-h2.outD_];exact Zyg h1 h2.ko i mask
theorem Zud(h:DG w G p N K q)(hK:K<100000)(a:HArc):Calls Tryz.prog 78 #[.pointer p,.agg a.cells.toArray] w (DTs w G p N (K+1) (Zcq N q a) (Qi (Zir N q a))):=by
 rcases h with ⟨rfl,rfl,rfl⟩|⟨g,rfl,out,inn,ob,ib,oh,ih,base,h1,h2,h3⟩
 ·have hr:¬Zo 0 a=true:=fun e=>by rw[ZQ]at e;omega
  refine(ZxD w a).mono ?_;rintro e w' ⟨rfl,hu⟩;exact⟨G,by unfold Zir;rw[if_neg hr],.inl ⟨rfl,rfl,by unfold Zcq;rw[if_neg hr]⟩,hu.mono (fun _ _ e=>e.elim),fun _ e=> .inl e⟩
 ·have hq:=h2.fq;refine(Zyk (n:=q.length) h1 h2.so h2.si ⟨fun l hl=>by have:=h2.fo l hl;omega,fun l hl=>by have:=h2.fi l hl;omega⟩ (by omega) h3 a).mono ?_;rintro e w' ⟨G',oh',ih',rfl,k1,k2,k3⟩;rw[h2.addN_]at k1;exact⟨G',by rw[h2.addW_],.inr ⟨g,rfl,_,_,_,_,_,_,_,k1,h2.add a,Nat.le_trans h3 k2.size⟩,k2,k3⟩
end
theorem Zuc(w:I0)(n:Int):Calls Tryz.prog 77 #[Qi n] w (ZxS w (Zct n) 0 []):=by
 refine(Zyh w n).mono ?_;rintro e w' ⟨G,g,ob,ib,oh,ih,rfl,h1,h2,h3⟩;exact⟨G,g,rfl,.inr ⟨g,rfl,_,_,_,_,_,_,_,h1,DOk.nil _,Nat.le_refl _⟩,h2,h3⟩
/- Digraphs:the law of both sides. -/
def DMa(w:I0)(g N K:Nat)(q:List HArc)(W:I0):Prop:=
 ∃G,DG W G (some ⟨g,0,none⟩) N K q∧Upd No w W∧∀k,G k->w.heap.size<=k
namespace DMa
variable {w W W':I0} {g N K:Nat} {q:List HArc}
theorem no(h:DMa w g N K q W)(k:Upd No W W'):DMa w g N K q W':=by
 obtain⟨G,h1,h2,h3⟩:=h;exact⟨G,h1.no k,h2.trans k,h3⟩
theorem upd(h:DMa w g N K q W):Upd No w W:=by
 obtain⟨G,h1,h2,h3⟩:=h;exact h2
theorem is(h:DMa w g N K q W):∃G,DG W G (some ⟨g,0,none⟩) N K q:=by
 obtain⟨G,h1,h2,h3⟩:=h;exact⟨G,h1⟩
end DMa
theorem Zxy(w:I0)(n:Int):Calls Tryz.prog 77 #[Qi n] w fun e w'=>∃g,e= .returned (.pointer (some ⟨g,0,none⟩))∧DMa w g (Zct n) 0 [] w':=by
 refine(Zuc w n).mono ?_;rintro e w' ⟨G,g,rfl,h1,h2,h3⟩;exact⟨g,rfl,G,h1,h2,h3⟩
theorem Zxz{w W:I0}{g N K:Nat}{q:List HArc}(h:DMa w g N K q W)(hK:K<100000)(a:HArc):Calls Tryz.prog 78 #[.pointer (some ⟨g,0,none⟩),.agg a.cells.toArray] W fun e w'=>e= .returned (Qi (Zir N q a))∧DMa w g N (K+1) (Zcq N q a) w':=by
 obtain⟨G,h1,h2,h3⟩:=h;refine(Zud h1 hK a).mono ?_;rintro e w' ⟨G',rfl,k1,k2,k3⟩;refine⟨rfl,G',k1,h2.then_ k2 fun i e=> .inr (h3 i e),fun k hk=>?_⟩;have:=h2.size;rcases k3 k hk with e|e
 ·exact h3 k e
 ·omega
def Zet(N:Nat):List HArc->List HArc->List HArc
 |q,[]=>q
 |q,a::l=>Zet N (Zcq N q a) l
theorem Zi4(N:Nat)(q:List HArc)(a:HArc)(l:List HArc):Zet N q (a::l)=Zet N (Zcq N q a) l:=rfl
theorem Zh0(node:Int)(back:Bool)(p:List HArc):(nxA node back p).length<=p.length:=by
 have:=ZnO node back p []
 simpa[nxA]using this
theorem Zff{w:I0}{base c:Nat}{A:OA}{l:List HArc}(h:w.ownsRow base 119 4 (.slice A l.length c) l.length (Za4 l)):ArcsL (Own (.slice A l.length c)) w A l:=Recs.of_own (n:=l.length) (c:=c) (ZvA l) (by omega) h
/- Components of a digraph,the document's,plain:who is reached,labels,members,who goes round. -/
/-! reach:as often as there are arcs,and once more -/
def Zb2(q:List HArc):Iv->List HArc->List Int
 |out,[]=>out
 |out,a::l=>Zb2 q (if a.f∈out∧a.t∉out then Z3 a.t out else out) l
def itR(q:List HArc):Nat->Iv->List Int
 |0,out=>out
 |n+1,out=>itR q n (Zb2 q out q)
def Zeb(q:List HArc)(i:Int):Iv:=itR q (q.length+1) (nxA i false q)
theorem ZlU{n:Int}:∀{l:Iv},n∉l->(Z3 n l).length=l.length+1
 |[],_=>rfl
 |x::l,h=>by
  simp only[Ie,not_or]at h;unfold Z3
  split
  ·rw[List.filter_eq_self.2 (fun y hy=>?_)]
   ·rfl
   ·have:y≠n:=fun e=>by
     subst e;rcases Ie.1 hy with e|e
     ·exact h.1 e
     ·exact h.2 e
    simpa using this
  ·rw[G1,ZlU h.2,G1]
theorem ZlL(q:List HArc):∀(l:List HArc) (out:Iv),∀x∈out,x∈Zb2 q out l
 |[],_,_,h=>h
 |a::l,out,x,h=>by
  unfold Zb2
  apply ZlL
  split
  ·exact(Za1 _ _ _).2 (Or.inr h)
  ·exact h
theorem ZhP(q:List HArc):∀(l:List HArc) (out:Iv),out.length<=(Zb2 q out l).length∧((Zb2 q out l).length=out.length->Zb2 q out l=out∧∀a∈l,a.f∈out->a.t∈out)
 |[],out=>⟨Nat.le_refl _,fun _=>⟨rfl,by simp⟩⟩
 |a::l,out=>by
  unfold Zb2
  split
  ·rename_i h
   have h1:=(ZhP q l (Z3 a.t out)).1;have h2:=ZlU h.2;exact⟨by omega,fun e=>by omega⟩
  ·rename_i h
   obtain⟨h1,h2⟩:=ZhP q l out;refine⟨h1,fun e=>⟨(h2 e).1,fun b hb=>?_⟩⟩;rcases Ie.1 hb with rfl|hb
   ·intro hf;exact Classical.byContradiction fun ht=>h ⟨hf,ht⟩
   ·exact(h2 e).2 b hb
theorem ZnX(q:List HArc){B:Nat}(hB:∀out:Iv,(∀x∈out,∃a∈q,a.t=x)->out.Pairwise (·<·)->out.length<=B):∀(n:Nat) (out:Iv),(∀x∈out,∃a∈q,a.t=x)->out.Pairwise (·<·)->(itR q n out).length<=B
 |0,out,h1,h2=>hB out h1 h2
 |n+1,out,h1,h2=>by
  unfold itR;refine ZnX q hB n _ ?_ ?_
  ·have:∀(l:List HArc) (out:Iv),(∀a∈l,a∈q)->(∀x∈out,∃a∈q,a.t=x)->∀x∈Zb2 q out l,∃a∈q,a.t=x:=by
    intro l
    induction l with
    |nil=>intro out _ h;exact h
    |cons a l ih=>
     intro out hl h;unfold Zb2;refine ih _ (fun b hb=>hl b (Gk _ hb)) ?_
     split
     ·intro x hx;rcases(Za1 _ _ _).1 hx with rfl|hx
      ·exact⟨a,hl a (Gv ..),rfl⟩
      ·exact h x hx
     ·exact h
   exact this q out (fun _ h=>h) h1
  ·have:∀(l:List HArc) (out:Iv),out.Pairwise (·<·)->(Zb2 q out l).Pairwise (·<·):=by
    intro l
    induction l with
    |nil=>intro out h;exact h
    |cons a l ih=>
     intro out h;unfold Zb2;refine ih _ ?_
     split
     ·exact ZdS _ _ h
     ·exact h
   exact this q out h2
theorem Zeh:∀(l m:Iv),l.Nodup->(∀x∈l,x∈m)->l.length<=m.length
 |[],_,_,_=>Nat.zero_le _
 |x::l,m,hn,hs=>by
  obtain⟨h1,h2⟩:=H3.1 hn;have hx:=hs x (Gv ..);have:=Zeh l (m.erase x) h2 fun y hy=>(List.mem_erase_of_ne (fun e:y=x=>h1 (by rw[<-e];exact hy))).2 (hs y (Gk _ hy))
  rw[List.length_erase_of_mem hx]at this;have:=Gg hx;rw[G1];omega
theorem ZuO{l:Iv}(h:l.Pairwise (·<·)):l.Nodup:=by
 rw[List.nodup_iff_pairwise_ne];exact h.imp fun h e=>by omega
def Zj7(q:List HArc)(out:Iv):Prop:=∀a∈q,a.f∈out->a.t∈out
theorem Zhy{q:List HArc}{out:Iv}(h:Zj7 q out):∀l:List HArc,(∀a∈l,a∈q)->Zb2 q out l=out
 |[],_=>rfl
 |a::l,hl=>by
  unfold Zb2;rw[if_neg (fun e=>e.2 (h a (hl a (Gv ..)) e.1))];exact Zhy h l fun b hb=>hl b (Gk _ hb)
theorem ZnY(q:List HArc):∀(n:Nat) (out:Iv),itR q (n+1) out=Zb2 q (itR q n out) q
 |0,_=>rfl
 |n+1,out=>by
  show itR q (n+1) (Zb2 q out q)=_
  rw[ZnY q n];rfl
theorem Zq5(q:List HArc)(out:Iv):∀n,Zj7 q (itR q n out)∨out.length+n<=(itR q n out).length
 |0=>Or.inr (Nat.le_refl _)
 |n+1=>by
  rw[ZnY];rcases Zq5 q out n with h|h
  ·left
   rw[Zhy h q fun _ h=>h];exact h
  ·have h1:=ZhP q q (itR q n out)
   by_cases e:(Zb2 q (itR q n out) q).length=(itR q n out).length
   ·left
    have:=(h1.2 e);rw[this.1];exact this.2
   ·right;omega
theorem mem_nxF{q:List HArc}{i x:Int}:x∈nxA i false q↔∃a∈q,a.f=i∧a.t=x:=by
 unfold nxA;rw[ZeB];simp only[G6,false_or,Bool.false_eq_true,if_false]
 constructor
 ·rintro⟨a,ha,h1,h2⟩;exact⟨a,ha,h1,h2.symm⟩
 ·rintro⟨a,ha,h1,h2⟩;exact⟨a,ha,h1,h2.symm⟩
theorem Zlk(q:List HArc)(i:Int):Zj7 q (Zeb q i):=by
 unfold Zeb;rcases Zq5 q (nxA i false q) (q.length+1)with h|h
 ·exact h
 ·exfalso
  have:=ZnX q (B:=q.length) (fun out h1 h2=>by
   have:=Zeh out (q.map (·.t)) (ZuO h2) fun x hx=>by
    obtain⟨a,ha,rfl⟩:=h1 x hx;exact Ih.2 ⟨a,ha,rfl⟩
   rwa [Hw]at this) (q.length+1) (nxA i false q) (fun x hx=>by
    obtain⟨a,ha,_,rfl⟩:=mem_nxF.1 hx;exact⟨a,ha,rfl⟩) (ZiS _ _ _ _ List.Pairwise.nil)
  omega
theorem ZoL(q:List HArc)(i:Int)(P:Int->Prop)(h0:∀x∈nxA i false q,P x)(h1:∀a∈q,P a.f->P a.t):∀x∈Zeb q i,P x:=by
 have hr:∀(l:List HArc) (out:Iv),(∀a∈l,a∈q)->(∀x∈out,P x)->∀x∈Zb2 q out l,P x:=by
  intro l
  induction l with
  |nil=>intro out _ h;exact h
  |cons a l ih=>
   intro out hl h;unfold Zb2;refine ih _ (fun b hb=>hl b (Gk _ hb)) ?_
   split
   ·rename_i hc
    intro x hx;rcases(Za1 _ _ _).1 hx with rfl|hx
    ·exact h1 a (hl a (Gv ..)) (h _ hc.1)
    ·exact h x hx
   ·exact h
 have hi:∀(n:Nat) (out:Iv),(∀x∈out,P x)->∀x∈itR q n out,P x:=by
  intro n
  induction n with
  |zero=>intro out h;exact h
  |succ n ih=>intro out h;exact ih _ (hr q out (fun _ h=>h) h)
 exact hi _ _ h0
theorem ZnW(q:List HArc):∀(n:Nat) (out:Iv),∀x∈out,x∈itR q n out
 |0,_,_,h=>h
 |n+1,out,x,h=>ZnW q n _ x (ZlL q q out x h)
def nxN(q:List HArc)(i:Nat):Iu:=(nxA (i:Int) false q).map Int.toNat
def Zcw(N:Nat)(q:List HArc):Prop:=∀a∈q,0<=a.f∧a.f<(N:Int)∧0<=a.t∧a.t<(N:Int)
theorem ZdY{q:List HArc}{N:Nat}(hq:Zcw N q){i x:Nat}:x∈nxN q i↔∃a∈q,a.f=(i:Int)∧a.t=(x:Int):=by
 unfold nxN;rw[Ih]
 constructor
 ·rintro⟨y,hy,rfl⟩;obtain⟨a,ha,h1,rfl⟩:=mem_nxF.1 hy;have:=(hq a ha).2.2.1;exact⟨a,ha,h1,by omega⟩
 ·rintro⟨a,ha,h1,h2⟩;exact⟨a.t,mem_nxF.2 ⟨a,ha,h1,rfl⟩,by omega⟩
theorem Zv8{q:List HArc}{N:Nat}(hq:Zcw N q){i x:Nat}(h:x∈nxN q i):x<N:=by
 obtain⟨a,ha,_,h2⟩:=(ZdY hq).1 h;have:=(hq a ha).2.2.2;omega
theorem ZsO{q:List HArc}{N:Nat}(hq:Zcw N q)(i:Nat):(nxN q i).map (fun x:Nat=>(x:Int))=nxA (i:Int) false q:=by
 unfold nxN;rw[List.map_map]
 conv=>rhs;rw[<-List.map_id (nxA (i:Int) false q)]
 refine List.map_congr_left fun x hx=>?_
 obtain⟨a,ha,_,rfl⟩:=mem_nxF.1 hx;have:=(hq a ha).2.2.1;simp only[Function.comp,id];omega
theorem Zi1{q:List HArc}{N:Nat}(hq:Zcw N q)(i x:Nat):(x:Int)∈Zeb q i↔∃y∈nxN q i,Rch (nxN q) y x:=by
 constructor
 ·intro h
  have:=ZoL q i (fun z=>∃y∈nxN q i,Rch (nxN q) y z.toNat) (fun z hz=>by
   obtain⟨a,ha,h1,rfl⟩:=mem_nxF.1 hz;have:=(hq a ha).2.2.1;exact⟨a.t.toNat,(ZdY hq).2 ⟨a,ha,h1,by omega⟩,Rch.refl _⟩) (fun a ha ⟨y,hy,h1⟩=>by
   have:=hq a ha;exact⟨y,hy,h1.step ((ZdY hq).2 ⟨a,ha,by omega,by omega⟩)⟩) _ h
  simpa using this
 ·rintro⟨y,hy,h⟩
  have h0:(y:Int)∈Zeb q i:=by
   obtain⟨a,ha,h1,h2⟩:=(ZdY hq).1 hy;exact ZnW q _ _ _ (mem_nxF.2 ⟨a,ha,h1,h2⟩)
  refine Rch.stay (S:=fun z:Nat=>(z:Int)∈Zeb q i) (fun a ha b hb=>?_) h h0;obtain⟨c,hc,h1,h2⟩:=(ZdY hq).1 hb;rw[<-h2];exact Zlk q i c hc (by rw[h1];exact ha)
theorem Zqn{nx:Nat->Iu}{a b:Nat}(hne:a≠b):Rch nx a b↔∃y∈nx a,Rch nx y b:=by
 constructor
 ·intro h
  induction h with
  |refl=>exact absurd rfl hne
  | @step b c h hm ih=>
   by_cases e:a=b
   ·subst e;exact⟨_,hm,Rch.refl _⟩
   ·obtain⟨y,hy,h1⟩:=ih e;exact⟨y,hy,h1.step hm⟩
 ·rintro⟨y,hy,h⟩;exact(Rch.one hy).trans h
/-! labels -/
def Zh6(p:Nat->Bool):Nat->Nat->Nat
 |0,l=>l
 |k+1,l=>Zh6 p k (if p k=true then k else l)
theorem ZkK(p:Nat->Bool):∀(n l:Nat),(Zh6 p n l=l∧∀k,k<n->p k=false)∨(Zh6 p n l<n∧p (Zh6 p n l)=true∧∀k,k<Zh6 p n l->p k=false)
 |0,l=>Or.inl ⟨rfl,fun k h=>by omega⟩
 |n+1,l=>by
  unfold Zh6;rcases ZkK p n (if p n=true then n else l)with ⟨h1,h2⟩|⟨h1,h2,h3⟩
  ·by_cases hp:p n=true
   ·rw[if_pos hp]at h1 ⊢;exact Or.inr ⟨by omega,by rw[h1];exact hp,fun k hk=>h2 k (by omega)⟩
   ·rw[if_neg hp]at h1 ⊢;refine Or.inl ⟨h1,fun k hk=>?_⟩
    by_cases e:k=n
    ·subst e;simpa using hp
    ·exact h2 k (by omega)
  ·exact Or.inr ⟨by omega,h2,h3⟩
def Zju(q:List HArc)(i k:Nat):Bool:=decide ((k:Int)∈Zeb q i)&&decide ((i:Int)∈Zeb q k)
def Zb8(q:List HArc)(i:Nat):Nat:=Zh6 (Zju q i) i i
theorem IsLab.one{nx:Nat->Iu}{x a b:Nat}(h:IsLab nx x a)(k:IsLab nx x b):a=b:=by
 have h1:=h.2.2 b k.1 k.2.1;have h2:=k.2.2 a h.1 h.2.1;omega
theorem ZrH{q:List HArc}{N:Nat}(hq:Zcw N q){i k:Nat}(hne:k≠i):Zju q i k=true↔Rch (nxN q) i k∧Rch (nxN q) k i:=by
 unfold Zju;rw[Hj,decide_eq_true_iff,decide_eq_true_iff,Zi1 hq,Zi1 hq,Zqn (Ne.symm hne),Zqn hne]
theorem ZjS{q:List HArc}{N:Nat}(hq:Zcw N q)(i:Nat):IsLab (nxN q) i (Zb8 q i):=by
 unfold Zb8;have hb:∀k,k<i->(Zju q i k=true↔Rch (nxN q) i k∧Rch (nxN q) k i):=fun k hk=>ZrH hq (by omega)
 rcases ZkK (Zju q i) i i with ⟨h1,h2⟩|⟨h1,h2,h3⟩
 ·rw[h1];refine⟨Rch.refl _,Rch.refl _,fun y h4 h5=>?_⟩
  apply Classical.byContradiction
  intro hn;have:=(hb y (by omega)).2 ⟨h4,h5⟩;rw[h2 y (by omega)]at this
  cases this
 ·have h4:=(hb _ h1).1 h2;refine⟨h4.1,h4.2,fun y h5 h6=>?_⟩
  apply Classical.byContradiction
  intro hn;have:=(hb y (by omega)).2 ⟨h5,h6⟩;rw[h3 y (by omega)]at this
  cases this
def ZdM(N:Nat)(q:List HArc):Iv:=(List.range N).map fun i=>(Zb8 q i:Int)
/- Components of a digraph,plain:the components by their labels,and who goes round. -/
/-! who goes round -/
section
variable {q:List HArc} {N:Nat}
theorem ZqZ(hq:Zcw N q){i j:Nat}:Zb8 q i=Zb8 q j↔Rch (nxN q) i j∧Rch (nxN q) j i:=by
 have hi:=ZjS hq i;have hj:=ZjS hq j
 constructor
 ·intro e;rw[e]at hi;exact⟨hi.1.trans hj.2.1,hj.1.trans hi.2.1⟩
 ·rintro⟨h1,h2⟩;refine IsLab.one (x:=i) hi ⟨h1.trans hj.1,hj.2.1.trans h2,fun y h3 h4=>hj.2.2 y (h2.trans h3) (h4.trans h1)⟩
end
