/- Digraphs: an arc added. -/
import Derived.Test.YtadmgiljchgccaaGreatTcao
namespace Go.Proofs.YtadmgiljchgccaaGreat
open Go.RowKit
set_option linter.unusedVariables false
set_option linter.unusedSimpArgs false
set_option maxRecDepth 100000
set_option maxHeartbeats 2000000
def Zej(out:List (Iq))(a:HArc):Int:=if Zo out.length a=true then (if ZeR out a=true then 4 else 0) else 1
def Zfm(l:Iq)(e:DEnd):Iq:=Zcv l (Zbs l e) e
def Zgs(out:List (Iq))(a:HArc):List (Iq):=if Zej out a=0 then out.modify a.f.toNat (Zfm · (ZcF a)) else out
def Zgu(out inn:List (Iq))(a:HArc):List (Iq):=if Zej out a=0 then inn.modify a.t.toNat (Zfm · (inE a)) else inn
def Zgt(out:List (Iq))(n:Int)(a:HArc):Int:=if Zej out a=0 then n+1 else n
def DTo(w:I0)(G:Iw)(g:Nat)(out inn:List (Iq))(n:Int)(ob ib:Nat)(base:Nat)(r:Iz)(e:Ending)(w':I0):Prop:=
 ∃G' oh' ih',e= .returned r∧GIs w' G' g out inn n ob ib oh' ih' base∧Upd G w w'∧∀k,G' k->G k∨w.heap.size<=k
theorem GIs.same{w w':I0}{G:Iw}{g:Nat}{out inn:List (Iq)}{n:Int}{ob ib:Nat}{oh ih:Ip}{base:Nat}(h:GIs w G g out inn n ob ib oh ih base)(k:Upd No w w')(r:Iz):DTo w G g out inn n ob ib base r (.returned r) w':=
 ⟨G,oh,ih,rfl,h.upd k Qo,k.mono (fun _ _ e=>e.elim),fun _ e=> .inl e⟩
def ZaM(v:Iz)(b:Nat):Nat->Prop:=fun k=>Own v k∨k=b
theorem Zsv(l:Iq)(e:DEnd)(h:Zlp l e (Zbs l e)):(Zfm l e).length=l.length+1:=Zdw l _ e h.1
theorem GIs.apart{w:I0}{G:Iw}{g:Nat}{out inn:List (Iq)}{n:Int}{ob ib:Nat}{oh ih:Ip}{base:Nat}(h:GIs w G g out inn n ob ib oh ih base){i j:Nat}{v u:Iz}(hv:oh[i]? =some v)(hu:ih[j]? =some u):∀k,u.ownBlock=some k->¬ZaM v ob k:=by
 rintro k hk (e|e)
 ·exact h.dis i (oh.length+j) v u k (by rw[List.getElem?_append_left (List.getElem?_eq_some_iff.1 hv).1];exact hv) (by rw[List.getElem?_append_right (by omega)];simpa using hu) (by have:=(List.getElem?_eq_some_iff.1 hv).1;omega) e hk
 ·obtain⟨hj,rfl⟩:=List.getElem?_eq_some_iff.1 hu;obtain⟨B,d,h1,h2⟩:=h.ri.2 j (by rw[<-h.ri.1];exact hj);rw[Qg hj]at h1;rw[Option.some.inj h1]at hk;have:=(h2.lt _ hk).1;have:=h.low;omega
theorem ZiY{α:Type}(l:List α)(f:α->α)(i:Nat)(h:i<l.length):l.modify i f=l.set i (f l[i]):=by
 apply List.ext_getElem
 ·simp
 ·intro k h1 h2;rw[List.getElem_modify,List.getElem_set]
  split
  ·next e=>subst e;rfl
  ·rfl
theorem GIs.setN{w:I0}{G:Iw}{g:Nat}{out inn:List (Iq)}{n:Int}{ob ib:Nat}{oh ih:Ip}{base:Nat}(h:GIs w G g out inn n ob ib oh ih base)(m:Int):GIs (w.setCell ⟨g,2,none⟩ (Qi m)) G g out inn m ob ib oh ih base:=by
 have u:=Upd.setOne (Il (One g) w) 2 (Qi m);have hl:=h.low
 exact {h with
  blk:=h.blk.set_ 2 (Qi m)
  ob_:=h.ob_.upd u (fun e=>h.ne.1 e.symm)
  ib_:=h.ib_.upd u (fun e=>h.ne.2.1 e.symm)
  ro:=⟨h.ro.1,fun i hi=>by
   obtain⟨A,c,h1,h2⟩:=h.ro.2 i hi;exact⟨A,c,h1,Za h2 u (fun k hk e=>by have:=(h2.lt k hk).1;unfold One at e;omega)⟩⟩
  ri:=⟨h.ri.1,fun i hi=>by
   obtain⟨A,c,h1,h2⟩:=h.ri.2 i hi;exact⟨A,c,h1,Za h2 u (fun k hk e=>by have:=(h2.lt k hk).1;unfold One at e;omega)⟩⟩
  old:=fun k hk=>Gu (h.old k hk) u.size}
theorem Zsa{w wb w5 w7:I0}{G:Iw}{v u:Iz}{ob ib:Nat}(h1:Upd No w wb)(h2:Upd (ZaM v ob) wb w5)(h3:Upd (ZaM u ib) w5 w7)(hv:∀k,Own v k->G k)(hu:∀k,Own u k->G k)(hb:G ob∧G ib):
  Upd G w w7∧∀k,GG w5 w7 (GG wb w5 G) k->G k∨w.heap.size<=k:=by
 have a1:Upd G w wb:=h1.mono (fun _ _ e=>e.elim);have a2:Upd G w w5:=a1.then_ h2 (by rintro k (e|rfl);exact .inl (hv k e);exact .inl hb.1);refine⟨a2.then_ h3 (by rintro k (e|rfl);exact .inl (hu k e);exact .inl hb.2),?_⟩;have z1:=h1.size;have z2:=h2.size;rintro k ((e|e)|e)
 ·exact .inl e
 ·exact .inr (by omega)
 ·exact .inr (by omega)
section
variable {w:I0} {G:Iw} {g:Nat} {out inn:List (Iq)} {n:Nat} {ob ib:Nat} {oh ih:Ip} {base:Nat}
theorem Zyk(h:GIs w G g out inn n ob ib oh ih base)(hr:∀l∈out,ZdE l)(aE:∀l∈inn,ZdE l)(dE:(∀l∈out,l.length<100000)∧(∀l∈inn,l.length<100000))(FH:n<1000000)(a7:base<=w.heap.size)(a:HArc):
  Calls Tryz.prog 78 #[.pointer (some ⟨g,0,none⟩),.agg a.cells.toArray] w (DTo w G g (Zgs out a) (Zgu out inn a) (Zgt out n a) ob ib base (Qi (Zej out a))):=by
 have u0:=(Il No w).alloc (.cells a.cells.toArray 119);have hn:=Qh (Zrn (h.upd u0 Qo) a);have HA:=Qh (fun(W:I0) (k:Upd No w W)=>Zyj (h.upd k Qo) hr a);have bA:=Qh (Im w 119 a.cells);have HH:=Qh h;have U0:=Qh u0;have HZ:=Qh (And.intro dE (And.intro hr aE))
 by_cases hR:Zo out.length a=true
 ·obtain⟨i,j,e1,e2,hi,hj⟩:=Zd5 hR;rw[hR]at hn
  by_cases hh:ZeR out a=true
  ·have HW:=Qh (show Zej out a=4 by unfold Zej;rw[if_pos hR,if_pos hh]);have HX:=Qh (show Zgs out a=out∧Zgu out inn a=inn∧Zgt out n a=n by unfold Zgs Zgu Zgt;rw[HW.out];exact⟨rfl,rfl,rfl⟩);rw[hh]at HA;clear hR hh h hr aE dE u0 HZ e1 e2 hi hj;obtain⟨af,at',ak,al⟩:=a;unfold HArc.cells at*;go_enter Tryz.func78,Tryz.ntmps78;go_wp2_with fail;refine Ck hn.out fun w1 hu1=>?_;have b1:=bA.out.upd hu1 id;obtain⟨c0,c1,c2,c3⟩:=b1.c4;have U1:=Qh (U0.out.trans hu1);clear b1 hu1 hn bA U0;go_wp2_with fail;refine Ck ((HA.out _ U1.out)) fun w2 hu2=>?_;have U2:=Qh (U1.out.trans hu2);clear U1 hu2 c0 c1 c2 c3 HA;go_wp2;go_ret;rw[HX.out.1,HX.out.2.1,HX.out.2.2,HW.out];exact HH.out.same U2.out _
  ·have hf:ZeR out a=false:=by simpa using hh
   have HW:=Qh (show Zej out a=0 by unfold Zej;rw[if_pos hR,if_neg hh]);rw[hf]at HA;have HX:=Qh (show Zgs out a=out.modify a.f.toNat (Zfm · (ZcF a))∧Zgu out inn a=inn.modify a.t.toNat (Zfm · (inE a))∧Zgt out n a=n+1 by unfold Zgs Zgu Zgt;rw[HW.out];exact⟨rfl,rfl,rfl⟩);have nX:j<inn.length:=by rw[h.len];exact hj
   obtain⟨A,c,dL,ae⟩:=h.ro.2 i hi;obtain⟨B,d,hij,ee⟩:=h.ri.2 j nX;have HE:=Qh (fun(W:I0)=>Zuf W a);have aN:=dE.1 _ (Hg hi);have bC:=dE.2 _ (Hg nX);have dh:=ZcS (hr _ (Hg hi)) (ZcF a);have hp2:=ZcS (aE _ (Hg nX)) (inE a);have HP:=Qh (And.intro ae (And.intro ee (And.intro dh (And.intro hp2 (And.intro dL hij)))));obtain⟨af,at',ak,al⟩:=a;subst e1 e2;unfold HArc.cells at*;simp only[ZcF,inE,DEnd.cells]at HE;clear hR hh hf h hr aE dE u0 HZ ae ee dh hp2 dL hij;go_enter Tryz.func78,Tryz.ntmps78;go_wp2_with fail;refine Ck hn.out fun w1 hu1=>?_;have b1:=bA.out.upd hu1 id;obtain⟨c0,c1,c2,c3⟩:=b1.c4;have U1:=Qh (U0.out.trans hu1);have B1:=Qh b1;clear b1 hu1 hn bA U0;go_wp2_with fail;refine Ck ((HA.out _ U1.out)) fun w2 hu2=>?_;have b1:=B1.out.upd hu2 id;obtain⟨c0,c1,c2,c3⟩:=b1.c4;have U2:=Qh (U1.out.trans hu2);have B2:=Qh b1;clear b1 U1 B1 hu2 HA;go_wp2_with fail;refine Ck ((HE.out _)) fun w3 hu3=>?_;have U3:=Qh (U2.out.trans hu3);have B3:=Qh (B2.out.upd hu3 id);clear B2 U2 hu3 c0 c1 c2 c3 HE;go_wp2;obtain⟨wb,ag⟩:=Qe ((w3.alloc (.cells #[Qi ak,Qi al,Qi (j:Int)] 160)).alloc (.cells #[Qi ak,Qi al,Qi (i:Int)] 160))
   obtain⟨n1,n2,n3,n4⟩:=ZnC w w3 U3.out 160 [Qi ak,Qi al,Qi (j:Int)] [Qi ak,Qi al,Qi (i:Int)] wb ag;have eY:=U3.out.size;have b4:=B3.out.upd n4 id;have hg:=HH.out.upd n3 Qo;obtain⟨ae,ee,dh,hp2,dL,hij⟩:=HP.out;have sz:=Za ae n3 Qo;have dK:wb.heap.size<=wb.heap.size:=Nat.le_refl _;have i7:∀k,Own (.slice A out[i].length c) k->base<=k∧k<w.heap.size:=fun k hk=>ae.lt k hk
   have hlow:=hg.low;have hne:=hg.ne;have t0:∀k,¬Own (.slice A out[i].length c) k->k≠ob->¬ZaM (.slice A out[i].length c) ob k:=fun k h1 h2 e=>e.elim h1 h2
   have t5:∀k,k<base->¬Own (.slice A out[i].length c) k:=fun k hk e=>by have:=i7 _ e;omega
   have t6:∀k,w.heap.size<=k->¬Own (.slice A out[i].length c) k:=fun k hk e=>by have:=i7 _ e;omega
   have t1:¬ZaM (.slice A out[i].length c) ob g:=t0 _ (t5 _ hlow.1) (by omega);have t2:¬ZaM (.slice A out[i].length c) ob w.heap.size:=t0 _ (t6 _ (Nat.le_refl _)) (by omega);have t3:¬ZaM (.slice A out[i].length c) ob w3.heap.size:=t0 _ (t6 _ eY) (by omega);have t4:¬ZaM (.slice A out[i].length c) ob (w3.heap.size+1):=t0 _ (t6 _ (by omega)) (by omega);have g0:∀W,Upd (ZaM (.slice A out[i].length c) ob) wb W->W.cell? ⟨g,0,none⟩=some (.slice (some ⟨ob,0,none⟩) out.length out.length):=fun W hW=>(hg.blk.upd hW t1).cell 0
   have a0:∀W,Upd (ZaM (.slice A out[i].length c) ob) wb W->W.cell? ⟨w.heap.size,0,none⟩=some (Qi (i:Int)):=fun W hW=>(b4.upd hW t2).cell 0
   have e0:∀W,Upd (ZaM (.slice A out[i].length c) ob) wb W->W.cell? ⟨w3.heap.size,0,none⟩=some (Qi ak):=fun W hW=>(n1.upd hW t3).cell 0
   have e1:∀W,Upd (ZaM (.slice A out[i].length c) ob) wb W->W.cell? ⟨w3.heap.size,1,none⟩=some (Qi al):=fun W hW=>(n1.upd hW t3).cell 1
   have e2:∀W,Upd (ZaM (.slice A out[i].length c) ob) wb W->W.cell? ⟨w3.heap.size,2,none⟩=some (Qi (j:Int)):=fun W hW=>(n1.upd hW t3).cell 2
   have oi:wb.cell? ⟨ob,i,none⟩=some (.slice A out[i].length c):=by rw[hg.ob_.cell i];exact dL
   have HC:=Qh (fun(W:I0) (hW:Upd No wb W)=>Zwm W base A c out[i] ⟨ak,al,(j:Int)⟩ (Zbs out[i] ⟨ak,al,(j:Int)⟩) (Za sz hW Qo) dh (by omega) (Nat.le_trans a7 (Nat.le_trans n3.size (Nat.le_trans dK hW.size))));have aY:i<oh.length:=(List.getElem?_eq_some_iff.1 dL).1;have OB:=Qh (And.intro hg.ob_ (t5 ob hlow.2.1));have k1:(0:Int)<=(i:Int):=Qn _;have k2:(i:Int)<(out.length:Int):=by omega
   unfold DEnd.cells at HC;have ST:=Qh (And.intro hg (And.intro n3 (And.intro b4 (And.intro n2 (And.intro t2 (And.intro t4 eY))))));rw[ag];clear ag n1 n2 n3 n4 b4 hg B3 U3 HH ae ee dh hp2 dL hij sz eY;clear i7 hlow hne t0 t1 t2 t3 t4 t5 t6 dK;refine wpS (fun w'=>Upd (ZaM (.slice A out[i].length c) ob) wb w') ?_ fun jH=>?_
   ·(first|exact(Il _ _).drew|exact jH.trans hq)
   (iterate 13 refine wpF ?_);refine wpK 14 rfl ?_;refine wpZ 13 rfl fun K hK=>?_;go_simp;refine hK.out _ _ ?_ fun jH=>?_
   ·(first|exact(Il _ _).drew|exact jH.trans hq)
   try simp only[Qa]
   refine wpZ 15 rfl fun K hK=>?_;go_simp
   (first
  |(go_at_call 128;refine(HC.out _ (Il No _).drew).mono ?_;rintro e w4 ⟨A4,c4,rfl,aW,hu4,dd⟩;have hq:=hu4.mono (T:=ZaM (.slice A out[i].length c) ob) (fun _ _ e=>Or.inl e);have H4:=Qh (And.intro aW (And.intro hu4 dd));clear aW hu4 dd))
   try (go_wp2_with fail)
   refine hK.out _ _ ?_ fun jH=>?_
   ·(first|exact(Il _ _).drew|exact jH.trans hq)
   try simp only[Qa]
   refine wpK 16 rfl ?_;refine wpZ 17 rfl fun K hK=>?_
   (first
  |(refine Zhw rfl rfl (g:=ob) (i:=i) (t:=163) (old:=oh) rfl rfl (H4.out.2.1.blk OB.out.1 OB.out.2) (by kernel_rfl) aY ?_;intro w5 cw hu5;have hq:=hu5.mono (T:=ZaM (.slice A out[i].length c) ob) (fun _ _ e=>Or.inr e);have H5:=Qh (And.intro cw hu5);clear cw hu5))
   refine hK.out _ _ ?_ fun jH=>?_
   ·(first|exact(Il _ _).drew|exact jH.trans hq)
   try simp only[Qa]
   refine wpD (Ii ?_)
   all_goals
    obtain⟨hg,n3,b4,n2,t2,t4,eY⟩:=ST.out;obtain⟨ae,ee,dh,hp2,dL,hij⟩:=HP.out;have k8:=jH;have fa:=hg.rowO hi dL jH H5.out.1 (Za H4.out.1 H5.out.2 (fun k hk e=>by have:=(H4.out.1.lt k hk).1;have:=hg.low;unfold One at e;omega)) H4.out.2.2 (Nat.le_trans (Nat.le_of_eq (Zdw out[i] (Zbs out[i] ⟨ak,al,(j:Int)⟩) ⟨ak,al,(j:Int)⟩ dh.1)) (by omega));have rR:=Za (Za ee n3 Qo) jH (hg.apart dL hij);have b4:=b4.upd jH t2;have n2:=n2.upd jH t4;have rj:inn.length=out.length:=hg.len;have iL:Blk w5 g 158 [.slice (some ⟨ob,0,none⟩) out.length out.length,.slice (some ⟨ib,0,none⟩) out.length out.length,Qi (n:Int)]:=by simpa using fa.blk
    go_wp2;clear HC OB g0 a0 e0 e1 e2 oi k1 k2 aY;have dK:wb.heap.size<=w5.heap.size:=k8.size;have i7:∀k,Own (.slice B inn[j].length d) k->base<=k∧k<w.heap.size:=fun k hk=>ee.lt k hk
    have hlow:=fa.low;have hne:=fa.ne;have t0:∀k,¬Own (.slice B inn[j].length d) k->k≠ib->¬ZaM (.slice B inn[j].length d) ib k:=fun k h1 h2 e=>e.elim h1 h2
    have t5:∀k,k<base->¬Own (.slice B inn[j].length d) k:=fun k hk e=>by have:=i7 _ e;omega
    have t6:∀k,w.heap.size<=k->¬Own (.slice B inn[j].length d) k:=fun k hk e=>by have:=i7 _ e;omega
    have t1:¬ZaM (.slice B inn[j].length d) ib g:=t0 _ (t5 _ hlow.1) (by omega);have t2:¬ZaM (.slice B inn[j].length d) ib w.heap.size:=t0 _ (t6 _ (Nat.le_refl _)) (by omega);have t3:¬ZaM (.slice B inn[j].length d) ib w3.heap.size:=t0 _ (t6 _ eY) (by omega);have t4:¬ZaM (.slice B inn[j].length d) ib (w3.heap.size+1):=t0 _ (t6 _ (by omega)) (by omega);have g0:∀W,Upd (ZaM (.slice B inn[j].length d) ib) w5 W->W.cell? ⟨g,1,none⟩=some (.slice (some ⟨ib,0,none⟩) out.length out.length):=fun W hW=>(iL.upd hW t1).cell 1
    have a0:∀W,Upd (ZaM (.slice B inn[j].length d) ib) w5 W->W.cell? ⟨w.heap.size,1,none⟩=some (Qi (j:Int)):=fun W hW=>(b4.upd hW t2).cell 1
    have e0:∀W,Upd (ZaM (.slice B inn[j].length d) ib) w5 W->W.cell? ⟨(w3.heap.size+1),0,none⟩=some (Qi ak):=fun W hW=>(n2.upd hW t4).cell 0
    have e1:∀W,Upd (ZaM (.slice B inn[j].length d) ib) w5 W->W.cell? ⟨(w3.heap.size+1),1,none⟩=some (Qi al):=fun W hW=>(n2.upd hW t4).cell 1
    have e2:∀W,Upd (ZaM (.slice B inn[j].length d) ib) w5 W->W.cell? ⟨(w3.heap.size+1),2,none⟩=some (Qi (i:Int)):=fun W hW=>(n2.upd hW t4).cell 2
    have oi:w5.cell? ⟨ib,j,none⟩=some (.slice B inn[j].length d):=by rw[fa.ib_.cell j];exact hij
    have HC:=Qh (fun(W:I0) (hW:Upd No w5 W)=>Zwm W base B d inn[j] ⟨ak,al,(i:Int)⟩ (Zbs inn[j] ⟨ak,al,(i:Int)⟩) (Za rR hW Qo) hp2 (by omega) (Nat.le_trans a7 (Nat.le_trans n3.size (Nat.le_trans dK hW.size))));have aY:j<ih.length:=(List.getElem?_eq_some_iff.1 hij).1;have OB:=Qh (And.intro fa.ib_ (t5 ib hlow.2.2));have k1:(0:Int)<=(j:Int):=Qn _;have k2:(j:Int)<(out.length:Int):=by omega
    unfold DEnd.cells at HC;have S6:=Qh (And.intro fa (And.intro k8 (And.intro ee hij)));clear hg n3 b4 n2 t2 t4 eY ae ee dh hp2 dL hij k8 fa rR jH hq iL rj;clear i7 hlow hne t0 t1 t2 t3 t4 t5 t6 dK;refine wpS (fun w'=>Upd (ZaM (.slice B inn[j].length d) ib) w5 w') ?_ fun jH=>?_
    ·(first|exact(Il _ _).drew|exact jH.trans hq)
    (iterate 13 refine wpF ?_);refine wpK 14 rfl ?_;refine wpZ 13 rfl fun K hK=>?_;go_simp;refine hK.out _ _ ?_ fun jH=>?_
    ·(first|exact(Il _ _).drew|exact jH.trans hq)
    try simp only[Qa]
    refine wpZ 15 rfl fun K hK=>?_;go_simp
    (first
  |(go_at_call 128;refine(HC.out _ (Il No _).drew).mono ?_;rintro e w6 ⟨A6,c6,rfl,aW,hu4,dd⟩;have hq:=hu4.mono (T:=ZaM (.slice B inn[j].length d) ib) (fun _ _ e=>Or.inl e);have H6:=Qh (And.intro aW (And.intro hu4 dd));clear aW hu4 dd))
    try (go_wp2_with fail)
    refine hK.out _ _ ?_ fun jH=>?_
    ·(first|exact(Il _ _).drew|exact jH.trans hq)
    try simp only[Qa]
    refine wpK 16 rfl ?_;refine wpZ 17 rfl fun K hK=>?_
    (first
  |(refine Zhw rfl rfl (g:=ib) (i:=j) (t:=163) (old:=ih) rfl rfl (H6.out.2.1.blk OB.out.1 OB.out.2) (by kernel_rfl) aY ?_;intro w7 cw hu5;have hq:=hu5.mono (T:=ZaM (.slice B inn[j].length d) ib) (fun _ _ e=>Or.inr e);have H7:=Qh (And.intro cw hu5);clear cw hu5))
    refine hK.out _ _ ?_ fun jH=>?_
    ·(first|exact(Il _ _).drew|exact jH.trans hq)
    try simp only[Qa]
    refine wpD (Ii ?_)
    all_goals
     obtain⟨fa,k8,ee,hij⟩:=S6.out;obtain⟨hg,n3,b4,n2,t2,t4,eY⟩:=ST.out;obtain⟨ae,rK,dh,hp2,dL,v9⟩:=HP.out;have iw:=fa.rowI nX hij jH H7.out.1 (Za H6.out.1 H7.out.2 (fun k hk e=>by have:=(H6.out.1.lt k hk).1;have:=fa.low;unfold One at e;omega)) H6.out.2.2 (Nat.le_trans (Nat.le_of_eq (Zdw inn[j] (Zbs inn[j] ⟨ak,al,(i:Int)⟩) ⟨ak,al,(i:Int)⟩ hp2.1)) (by omega));have hin:=hg.inG;have HU:=Qh (Zsa n3 k8 jH (fun k e=>hin.2.2.2 _ (Gp _ (Gn dL)) k e) (fun k e=>hin.2.2.2 _ (Gh _ (Gn hij)) k e) ⟨hin.2.1,hin.2.2.1⟩);have DR:=Qh hin.1;have HR:=Qh (iw.setN ((n:Int)+1));have c9:=iw.blk.cell 2;simp only[Qz,Qs]at c9;have f9:=iw.blk.free 2;have hw:IntKind.i64.wrap ((n:Int)+1)=(n:Int)+1:=IntWalk.i64_in _ (by omega);clear fa k8 ee hij hg n3 b4 n2 t2 t4 eY ae rK dh hp2 dL v9 iw hin jH g0 a0 e0 e1 e2 oi hq;go_wp2;go_ret;rw[HX.out.1,HX.out.2.1,HX.out.2.2,HW.out,ZiY _ _ _ (by simpa using hi),ZiY _ _ _ (by simpa using nX)];refine⟨_,_,_,rfl,HR.out,(HU.out.1.then_ (Upd.setOne (Il (One g) _) 2 _) (fun k e=> .inl (by unfold One at e;exact e▸DR.out))),HU.out.2⟩
 ·have pd:Zo out.length a=false:=by simpa using hR
  rw[pd]at hn;have HW:=Qh (show Zej out a=1 by unfold Zej;rw[if_neg hR]);have HX:=Qh (show Zgs out a=out∧Zgu out inn a=inn∧Zgt out n a=n by unfold Zgs Zgu Zgt;rw[HW.out];exact⟨rfl,rfl,rfl⟩);clear hR pd h hr aE dE u0 bA HA HZ;obtain⟨af,at',ak,al⟩:=a;unfold HArc.cells at*;go_enter Tryz.func78,Tryz.ntmps78;go_wp2_with fail;refine Ck hn.out fun w1 hu1=>?_;have hu:=Qh (U0.out.trans hu1);clear hu1 hn;go_wp2;go_ret;rw[HX.out.1,HX.out.2.1,HX.out.2.2,HW.out];exact HH.out.same hu.out _
end
/- Digraphs:an arc dropped. -/
section
variable {w:I0} {G:Iw} {g:Nat} {out inn:List (Iq)} {n:Nat} {ob ib:Nat} {oh ih:Ip} {base:Nat}
end
/- Digraphs:a new one;a nil one. -/
theorem Zsh:SlT Tryz.prog 156 163 1 24:=SlT.mk_ Tryz.underlying156 (z:= .slice none 0 0) (by kernel_rfl) rfl (by omega)
def Zct(n:Int):Nat:=(min (max n 0) 4096).toNat
theorem Zsn(n:Int):Zct n<=4096:=by unfold Zct;omega
def ZtV(w:I0)(N:Nat)(e:Ending)(w':I0):Prop:=
 ∃G g ob ib oh ih,e= .returned (.pointer (some ⟨g,0,none⟩))∧GIs w' G g (List.replicate N []) (List.replicate N []) 0 ob ib oh ih w'.heap.size∧Upd No w w'∧∀k,G k->w.heap.size<=k
theorem ZqS(N:Nat):madeCells #[Value.slice none 0 0] (N*1)=(List.replicate N (Value.slice none 0 0)).toArray:=by
 apply Array.ext
 ·simp[madeCells]
 ·intro i h1 h2;simp[madeCells,Nat.mod_one]
theorem Zvh(w:I0)(N:Nat)(hN:N<=4096)(a b:Nat)(hab:(a=w.heap.size∧b=w.heap.size+1)∨(a=w.heap.size+1∧b=w.heap.size))(w':I0)(u:Upd No w w')(hz:w'.heap.size=w.heap.size+3)
  (h1:Blk w' w.heap.size 163 (List.replicate N (.slice none 0 0))) (h2:Blk w' (w.heap.size+1) 163 (List.replicate N (.slice none 0 0)))
  (h3:Blk w' (w.heap.size+2) 158 [.slice (some ⟨a,0,none⟩) N N,.slice (some ⟨b,0,none⟩) N N,Qi 0]):ZtV w N (.returned (.pointer (some ⟨w.heap.size+2,0,none⟩))) w':=by
 have hd:RowsD w' w'.heap.size (List.replicate N (.slice none 0 0)) (List.replicate N []):=by
  refine⟨by simp,fun i hi=>⟨none,0,?_,?_⟩⟩
  ·simp at hi;simp[hi]
  ·simp only[List.getElem_replicate];exact Ik _ _ _ _
 have hno:∀v∈List.replicate N (Value.slice none 0 0)++List.replicate N (Value.slice none 0 0),∀k,¬Own v k:=by
  intro v hv k hk;simp only[Ib,List.mem_replicate,or_self]at hv;rw[hv.2]at hk;simp[Own,Value.ownBlock]at hk
 refine⟨fun k=>w.heap.size<=k∧k<w'.heap.size,w.heap.size+2,a,b,List.replicate N (.slice none 0 0),List.replicate N (.slice none 0 0),rfl,?_,u,fun k hk=>hk.1⟩;have ha:Blk w' a 163 (List.replicate N (.slice none 0 0)):=by rcases hab with ⟨rfl,_⟩|⟨rfl,_⟩<;>assumption
 have hb:Blk w' b 163 (List.replicate N (.slice none 0 0)):=by rcases hab with ⟨_,rfl⟩|⟨_,rfl⟩<;>assumption
 constructor
 case blk=>simpa using h3
 case ob_=>exact ha
 case ib_=>exact hb
 case len=>rfl
 case ro=>exact hd
 case ri=>exact hd
 case dis=>intro i j v u k hv hu hne hk;exact absurd hk (hno v (Gn hv) k)
 case low=>omega
 case ne=>omega
 case inG=>exact⟨by omega,by omega,by omega,fun v hv k hk=>absurd hk (hno v hv k)⟩
 case old=>exact fun k hk=>hk.2
 case few=>exact⟨by simpa using hN,fun l hl=>by simp at hl;simp[hl.2],fun l hl=>by simp at hl;simp[hl.2]⟩
def Zby(N:Nat):Io:=(List.replicate N (Value.slice none 0 0)).toArray
theorem Zhn(N:Nat)(hN:N<=4096)(m:Int)(hm:m=(N:Int))(W:I0):(Instr.makeSlice 156 (Qi m) (Qi m)).run Tryz.prog W= .ok (.slice (some ⟨W.heap.size,0,none⟩) N N) (W.alloc (.cells (Zby N) 163)):=by
 subst hm;unfold Zby;rw[<-ZqS];exact Zfz W Zsh (z:= .slice none 0 0) (by kernel_rfl) N (by omega) (by omega)
theorem ZeA(w:I0)(N a b:Nat)(w':I0)(e:((w.alloc (.cells (Zby N) 163)).alloc (.cells (Zby N) 163)).alloc (.cells #[.slice (some ⟨a,0,none⟩) N N,.slice (some ⟨b,0,none⟩) N N,Qi 0] 158)=w')(hN:N<=4096)
  (hab:(a=w.heap.size∧b=w.heap.size+1)∨(a=w.heap.size+1∧b=w.heap.size)):ZtV w N (.returned (.pointer (some ⟨w.heap.size+1+1,0,none⟩))) w'.drew:=by
 subst e;have e2:Blk ((w.alloc (.cells (Zby N) 163)).alloc (.cells (Zby N) 163)) (w.alloc (.cells (Zby N) 163)).heap.size 163 (List.replicate N (.slice none 0 0)):=Im _ _ _;have e3:=Im ((w.alloc (.cells (Zby N) 163)).alloc (.cells (Zby N) 163)) 158 [.slice (some ⟨a,0,none⟩) N N,.slice (some ⟨b,0,none⟩) N N,Qi 0];rw[show(w.alloc (.cells (Zby N) 163)).heap.size=w.heap.size+1 by simp]at e2;rw[show((w.alloc (.cells (Zby N) 163)).alloc (.cells (Zby N) 163)).heap.size=w.heap.size+2 by simp]at e3;refine Zvh w N hN a b hab _ ((((Il No w).alloc _).alloc _).alloc _).drew (by simp[World.drew]) ?_ ?_ ?_
 ·exact((Im w 163 (List.replicate N (.slice none 0 0))).alloc _).alloc _
 ·exact e2.alloc _
 ·exact e3
theorem Zyh(w:I0)(n:Int):Calls Tryz.prog 77 #[Qi n] w (ZtV w (Zct n)):=by
 obtain⟨N,fN⟩:=Qe (Zct n);have eN:N<=4096:=by rw[<-fN];exact Zsn n
 have HN:=Qh fN;have DD:=Zhn N eN (min (max n 0) 4096) (by rw[<-fN];unfold Zct;omega)
 by_cases h1:n<0
 ·have hmk:=Zhn N eN 0 (by rw[<-fN];unfold Zct;omega);clear fN;go_enter Tryz.func77,Tryz.ntmps77;go_wp2;refine wpS (fun _=>True) ?_ fun jH=>?_
  ·(trivial)
  refine wpK 0 rfl ?_;refine wpK 2 rfl ?_;refine wpR [1,3] ?_;refine wpC rfl (fun K hK=>?_) ?_
  ·go_simp;refine hK.out _ _ ?_ fun jH=>?_
   ·(trivial)
   try simp only[Qa]
   refine wpZ 3 rfl fun K hK=>?_;go_simp;refine hK.out _ _ ?_ fun jH=>?_
   ·(trivial)
   try simp only[Qa]
   refine wpK 4 rfl ?_;refine wpZ 5 rfl fun K hK=>?_;go_simp;refine hK.out _ _ ?_ fun jH=>?_
   ·(trivial)
   try simp only[Qa]
   refine wpK 6 rfl ?_;refine wpD (Ii ?_);go_wp2;go_ret;rw[HN.out];refine ZeA w N _ _ _ rfl eN ?_;simp
  refine wpC rfl (fun K hK=>?_) AllReadyH.nil;go_simp;refine hK.out _ _ ?_ fun jH=>?_
  ·(trivial)
  try simp only[Qa]
  refine wpZ 1 rfl fun K hK=>?_;go_simp;refine hK.out _ _ ?_ fun jH=>?_
  ·(trivial)
  try simp only[Qa]
  refine wpK 4 rfl ?_;refine wpZ 5 rfl fun K hK=>?_;go_simp;refine hK.out _ _ ?_ fun jH=>?_
  ·(trivial)
  try simp only[Qa]
  refine wpK 6 rfl ?_;refine wpD (Ii ?_);go_wp2;go_ret;rw[HN.out];refine ZeA w N _ _ _ rfl eN ?_;simp
 ·by_cases h2:4096<n
  ·have hmk:=Zhn N eN 4096 (by rw[<-fN];unfold Zct;omega);clear fN;go_enter Tryz.func77,Tryz.ntmps77;go_wp2;refine wpS (fun _=>True) ?_ fun jH=>?_
   ·(trivial)
   refine wpK 0 rfl ?_;refine wpK 2 rfl ?_;refine wpR [1,3] ?_;refine wpC rfl (fun K hK=>?_) ?_
   ·go_simp;refine hK.out _ _ ?_ fun jH=>?_
    ·(trivial)
    try simp only[Qa]
    refine wpZ 3 rfl fun K hK=>?_;go_simp;refine hK.out _ _ ?_ fun jH=>?_
    ·(trivial)
    try simp only[Qa]
    refine wpK 4 rfl ?_;refine wpZ 5 rfl fun K hK=>?_;go_simp;refine hK.out _ _ ?_ fun jH=>?_
    ·(trivial)
    try simp only[Qa]
    refine wpK 6 rfl ?_;refine wpD (Ii ?_);go_wp2;go_ret;rw[HN.out];refine ZeA w N _ _ _ rfl eN ?_;simp
   refine wpC rfl (fun K hK=>?_) AllReadyH.nil;go_simp;refine hK.out _ _ ?_ fun jH=>?_
   ·(trivial)
   try simp only[Qa]
   refine wpZ 1 rfl fun K hK=>?_;go_simp;refine hK.out _ _ ?_ fun jH=>?_
   ·(trivial)
   try simp only[Qa]
   refine wpK 4 rfl ?_;refine wpZ 5 rfl fun K hK=>?_;go_simp;refine hK.out _ _ ?_ fun jH=>?_
   ·(trivial)
   try simp only[Qa]
   refine wpK 6 rfl ?_;refine wpD (Ii ?_);go_wp2;go_ret;rw[HN.out];refine ZeA w N _ _ _ rfl eN ?_;simp
  ·have hmk:=Zhn N eN n (by rw[<-fN];unfold Zct;omega);clear fN;go_enter Tryz.func77,Tryz.ntmps77;go_wp2;refine wpS (fun _=>True) ?_ fun jH=>?_
   ·(trivial)
   refine wpK 0 rfl ?_;refine wpK 2 rfl ?_;refine wpR [1,3] ?_;refine wpC rfl (fun K hK=>?_) ?_
   ·go_simp;refine hK.out _ _ ?_ fun jH=>?_
    ·(trivial)
    try simp only[Qa]
    refine wpZ 3 rfl fun K hK=>?_;go_simp;refine hK.out _ _ ?_ fun jH=>?_
    ·(trivial)
    try simp only[Qa]
    refine wpK 4 rfl ?_;refine wpZ 5 rfl fun K hK=>?_;go_simp;refine hK.out _ _ ?_ fun jH=>?_
    ·(trivial)
    try simp only[Qa]
    refine wpK 6 rfl ?_;refine wpD (Ii ?_);go_wp2;go_ret;rw[HN.out];refine ZeA w N _ _ _ rfl eN ?_;simp
   refine wpC rfl (fun K hK=>?_) AllReadyH.nil;go_simp;refine hK.out _ _ ?_ fun jH=>?_
   ·(trivial)
   try simp only[Qa]
   refine wpZ 1 rfl fun K hK=>?_;go_simp;refine hK.out _ _ ?_ fun jH=>?_
   ·(trivial)
   try simp only[Qa]
   refine wpK 4 rfl ?_;refine wpZ 5 rfl fun K hK=>?_;go_simp;refine hK.out _ _ ?_ fun jH=>?_
   ·(trivial)
   try simp only[Qa]
   refine wpK 6 rfl ?_;refine wpD (Ii ?_);go_wp2;go_ret;rw[HN.out];refine ZeA w N _ _ _ rfl eN ?_;simp
/- Digraphs:masks. -/
def Zf(mask kind:Int):Bool:=decide ((mask/2 ^ kind.toNat)%2=1)
theorem Zka(x:Int)(y:Nat)(hy:y<=8):bits .and .i64 x (y:Int)=(((x%18446744073709551616).toNat &&& y:Nat):Int):=by
 change IntKind.i64.wrap (((BitVec.ofInt 64 x &&& BitVec.ofInt 64 (y:Int)).toNat:Nat):Int)=_;have h1:(BitVec.ofInt 64 x).toNat=(x%18446744073709551616).toNat:=by rw[BitVec.toNat_ofInt];rfl
 have h2:(BitVec.ofInt 64 (y:Int)).toNat=y:=by rw[BitVec.toNat_ofInt];omega
 rw[BitVec.toNat_and,h1,h2];have h3:(x%18446744073709551616).toNat &&& y<=y:=Nat.and_le_right;exact IntWalk.i64_in _ (by omega)
theorem Zgr(x:Int):(bits .and .i64 x 1==1)=decide (x%2=1):=by
 have h:=Zka x 1 (by omega);rw[Nat.and_one_is_mod]at h;have h':bits .and .i64 x 1=(((x%18446744073709551616).toNat%2:Nat):Int):=h;rw[h',Bool.eq_iff_iff,beq_iff_eq,Gw];omega
theorem dof(w:I0)(mask kind:Int)(h1:1<=kind)(h2:kind<=3):CE 230 #[Qi mask,Qi kind] w (.bool (Zf mask kind)):=by
 have hk:kind=1∨kind=2∨kind=3:=by omega
 clear h1 h2;rcases hk with rfl|rfl|rfl
 all_goals
  go_enter Tryz.func230,Tryz.ntmps230;go_wp2;go_ret;exact⟨congrArg (fun b=>Ending.returned (.bool b)) (Zgr _),rfl⟩
