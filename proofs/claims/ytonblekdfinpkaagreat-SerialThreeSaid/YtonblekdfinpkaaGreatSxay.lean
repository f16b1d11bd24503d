/- Digraphs: an arc added. -/
import Derived.Test.YtonblekdfinpkaaGreatSxax
namespace Go.Proofs.YtonblekdfinpkaaGreat
set_option linter.unusedVariables false
set_option linter.unusedSimpArgs false
section
open Go.RowKit
def ZcZ (out:List (List DEnd)) (a:HArc):Int:=if Zx out.length a=true then (if Zdz out a=true then 4 else 0) else 1
def ZdW (l:List DEnd) (e:DEnd):List DEnd:=Zbv l (ZK l e) e
def ZeK (out:List (List DEnd)) (a:HArc):List (List DEnd):=if ZcZ out a=0 then out.modify a.f.toNat (ZdW · (ZaK a)) else out
def ZeM (out inn:List (List DEnd)) (a:HArc):List (List DEnd):=if ZcZ out a=0 then inn.modify a.t.toNat (ZdW · (inE a)) else inn
def ZeL (out:List (List DEnd)) (n:Int) (a:HArc):Int:=if ZcZ out a=0 then n+1 else n
def DTo (w:World) (G:Nat→Prop) (g:Nat) (out inn:List (List DEnd)) (n:Int) (ob ib:Nat) (base:Nat) (r:Value) (e:Ending) (w':World):Prop:=
 ∃G' oh' ih',e= .returned r∧GIs w' G' g out inn n ob ib oh' ih' base∧Upd G w w'∧∀k,G' k→G k∨w.heap.size≤k
theorem GIs.same {w w':World} {G:Nat→Prop} {g:Nat} {out inn:List (List DEnd)} {n:Int} {ob ib:Nat} {oh ih:List Value} {base:Nat} (h:GIs w G g out inn n ob ib oh ih base) (k:Upd No w w') (r:Value):DTo w G g out inn n ob ib base r (.returned r) w':=
 ⟨G,oh,ih,rfl,h.upd k (fun _ _=>id),k.mono (fun _ _ e=>e.elim),fun _ e=> .inl e⟩
def Zab (v:Value) (b:Nat):Nat→Prop:=fun k=>Own v k∨k=b
theorem Zoh (l:List DEnd) (e:DEnd) (h:ZiY l e (ZK l e)):(ZdW l e).length=l.length+1:=Zcg l _ e h.1
theorem GIs.apart {w:World} {G:Nat→Prop} {g:Nat} {out inn:List (List DEnd)} {n:Int} {ob ib:Nat} {oh ih:List Value} {base:Nat} (h:GIs w G g out inn n ob ib oh ih base) {i j:Nat} {v u:Value} (hv:oh[i]? =some v) (hu:ih[j]? =some u):∀k,u.ownBlock=some k→¬Zab v ob k:=by
 rintro k hk (e|e)
 ·exact h.dis i (oh.length+j) v u k (by rw[List.getElem?_append_left (List.getElem?_eq_some_iff.1 hv).1];exact hv) (by rw[List.getElem?_append_right (by omega)];simpa using hu) (by have:=(List.getElem?_eq_some_iff.1 hv).1;omega) e hk
 ·obtain⟨hj,rfl⟩:=List.getElem?_eq_some_iff.1 hu;obtain⟨B,d,h1,h2⟩:=h.ri.2 j (by rw[←h.ri.1];exact hj);rw[Qg hj]at h1;rw[Option.some.inj h1]at hk;have:=(h2.lt _ hk).1;have:=h.low;omega
theorem ZgX {α:Type} (l:List α) (f:α→α) (i:Nat) (h:i<l.length):l.modify i f=l.set i (f l[i]):=by
 apply List.ext_getElem
 ·simp
 ·intro k h1 h2;rw[List.getElem_modify,List.getElem_set]
  split
  ·next e=>subst e;rfl
  ·rfl
theorem GIs.setN {w:World} {G:Nat→Prop} {g:Nat} {out inn:List (List DEnd)} {n:Int} {ob ib:Nat} {oh ih:List Value} {base:Nat} (h:GIs w G g out inn n ob ib oh ih base) (m:Int):GIs (w.setCell ⟨g,2,none⟩ (.int .i64 m)) G g out inn m ob ib oh ih base:=by
 have u:=Upd.setOne (Upd.refl (One g) w) 2 (.int .i64 m);have hl:=h.low
 exact {h with
  blk:=h.blk.set_ 2 (.int .i64 m)
  ob_:=h.ob_.upd u (fun e=>h.ne.1 e.symm)
  ib_:=h.ib_.upd u (fun e=>h.ne.2.1 e.symm)
  ro:=⟨h.ro.1,fun i hi=>by
   obtain⟨A,c,h1,h2⟩:=h.ro.2 i hi;exact⟨A,c,h1,Zb h2 u (fun k hk e=>by have:=(h2.lt k hk).1;unfold One at e;omega)⟩⟩
  ri:=⟨h.ri.1,fun i hi=>by
   obtain⟨A,c,h1,h2⟩:=h.ri.2 i hi;exact⟨A,c,h1,Zb h2 u (fun k hk e=>by have:=(h2.lt k hk).1;unfold One at e;omega)⟩⟩
  old:=fun k hk=>Nat.lt_of_lt_of_le (h.old k hk) u.size}
theorem ZnY {w wb w5 w7:World} {G:Nat→Prop} {v u:Value} {ob ib:Nat} (h1:Upd No w wb) (h2:Upd (Zab v ob) wb w5) (h3:Upd (Zab u ib) w5 w7) (hv:∀k,Own v k→G k) (hu:∀k,Own u k→G k) (hb:G ob∧G ib):
  Upd G w w7∧∀k,GG w5 w7 (GG wb w5 G) k→G k∨w.heap.size≤k:=by
 have a1:Upd G w wb:=h1.mono (fun _ _ e=>e.elim);have a2:Upd G w w5:=a1.then_ h2 (by rintro k (e|rfl);exact .inl (hv k e);exact .inl hb.1);refine⟨a2.then_ h3 (by rintro k (e|rfl);exact .inl (hu k e);exact .inl hb.2),?_⟩;have z1:=h1.size;have z2:=h2.size;rintro k ((e|e)|e)
 ·exact .inl e
 ·exact .inr (by omega)
 ·exact .inr (by omega)
section
variable {w:World} {G:Nat→Prop} {g:Nat} {out inn:List (List DEnd)} {n:Nat} {ob ib:Nat} {oh ih:List Value} {base:Nat}
set_option maxRecDepth 100000 in
set_option maxHeartbeats 2000000 in
theorem Ztk (h:GIs w G g out inn n ob ib oh ih base) (hr:∀l∈out,ZaY l) (hri:∀l∈inn,ZaY l) (hsz:(∀l∈out,l.length<100000)∧(∀l∈inn,l.length<100000)) (hnn:n<1000000) (hbase:base≤w.heap.size) (a:HArc):
  Calls Tryz.prog 12 #[.pointer (some ⟨g,0,none⟩),.agg a.cells.toArray] w (DTo w G g (ZeK out a) (ZeM out inn a) (ZeL out n a) ob ib base (.int .i64 (ZcZ out a))):=by
 have u0:=(Upd.refl No w).alloc (.cells a.cells.toArray 34);have hn:=Qh (ZnA (h.upd u0 (fun _ _=>id)) a);have HA:=Qh (fun(W:World) (k:Upd No w W)=>Ztj (h.upd k (fun _ _=>id)) hr a);have bA:=Qh (Blk.new w 34 a.cells);have HH:=Qh h;have U0:=Qh u0;have HZ:=Qh (And.intro hsz (And.intro hr hri))
 by_cases hR:Zx out.length a=true
 ·obtain⟨i,j,e1,e2,hi,hj⟩:=ZbY hR;rw[hR]at hn
  by_cases hh:Zdz out a=true
  ·have HW:=Qh (show ZcZ out a=4 by unfold ZcZ;rw[if_pos hR,if_pos hh]);have HX:=Qh (show ZeK out a=out∧ZeM out inn a=inn∧ZeL out n a=n by unfold ZeK ZeM ZeL;rw[HW.out];exact⟨rfl,rfl,rfl⟩);rw[hh]at HA;clear hR hh h hr hri hsz u0 HZ e1 e2 hi hj;obtain⟨af,at',ak,al⟩:=a;unfold HArc.cells at*
   go_enter Tryz.func12,Tryz.ntmps12
   go_wp2_with fail
   refine(hn.out).mono ?_;rintro e w1 ⟨rfl,hu1⟩;have b1:=bA.out.upd hu1 id;have c0:=b1.cell 0;have c1:=b1.cell 1;have c2:=b1.cell 2;have c3:=b1.cell 3;simp only[Qz,Qs]at c0 c1 c2 c3;have U1:=Qh (U0.out.trans hu1);clear b1 hu1 hn bA U0
   go_wp2_with fail
   refine((HA.out _ U1.out)).mono ?_;rintro e w2 ⟨rfl,hu2⟩;have U2:=Qh (U1.out.trans hu2);clear U1 hu2 c0 c1 c2 c3 HA;go_wp2
   go_ret
   rw[HX.out.1,HX.out.2.1,HX.out.2.2,HW.out];exact HH.out.same U2.out _
  ·have hf:Zdz out a=false:=by simpa using hh
   have HW:=Qh (show ZcZ out a=0 by unfold ZcZ;rw[if_pos hR,if_neg hh]);rw[hf]at HA;have HX:=Qh (show ZeK out a=out.modify a.f.toNat (ZdW · (ZaK a))∧ZeM out inn a=inn.modify a.t.toNat (ZdW · (inE a))∧ZeL out n a=n+1 by unfold ZeK ZeM ZeL;rw[HW.out];exact⟨rfl,rfl,rfl⟩);have hjn:j<inn.length:=by rw[h.len];exact hj
   obtain⟨A,c,hoi,hown⟩:=h.ro.2 i hi;obtain⟨B,d,hij,hiwn⟩:=h.ri.2 j hjn;have HE:=Qh (fun(W:World)=>Zpz W a);have hl1:=hsz.1 _ (List.getElem_mem hi);have hl2:=hsz.2 _ (List.getElem_mem hjn);have hp1:=ZbP (hr _ (List.getElem_mem hi)) (ZaK a);have hp2:=ZbP (hri _ (List.getElem_mem hjn)) (inE a);have HP:=Qh (And.intro hown (And.intro hiwn (And.intro hp1 (And.intro hp2 (And.intro hoi hij)))));obtain⟨af,at',ak,al⟩:=a;subst e1 e2;unfold HArc.cells at*;simp only[ZaK,inE,DEnd.cells]at HE;clear hR hh hf h hr hri hsz u0 HZ hown hiwn hp1 hp2 hoi hij
   go_enter Tryz.func12,Tryz.ntmps12
   go_wp2_with fail
   refine(hn.out).mono ?_;rintro e w1 ⟨rfl,hu1⟩;have b1:=bA.out.upd hu1 id;have c0:=b1.cell 0;have c1:=b1.cell 1;have c2:=b1.cell 2;have c3:=b1.cell 3;simp only[Qz,Qs]at c0 c1 c2 c3;have U1:=Qh (U0.out.trans hu1);have B1:=Qh b1;clear b1 hu1 hn bA U0
   go_wp2_with fail
   refine((HA.out _ U1.out)).mono ?_;rintro e w2 ⟨rfl,hu2⟩;have b1:=B1.out.upd hu2 id;have c0:=b1.cell 0;have c1:=b1.cell 1;have c2:=b1.cell 2;have c3:=b1.cell 3;simp only[Qz,Qs]at c0 c1 c2 c3;have U2:=Qh (U1.out.trans hu2);have B2:=Qh b1;clear b1 U1 B1 hu2 HA
   go_wp2_with fail
   refine((HE.out _)).mono ?_;rintro e w3 ⟨rfl,hu3⟩;have U3:=Qh (U2.out.trans hu3);have B3:=Qh (B2.out.upd hu3 id);clear B2 U2 hu3 c0 c1 c2 c3 HE;go_wp2;obtain⟨wb,hwb⟩:∃wb,(w3.alloc (.cells #[.int .i64 ak,.int .i64 al,.int .i64 (j:Int)] 92)).alloc (.cells #[.int .i64 ak,.int .i64 al,.int .i64 (i:Int)] 92)=wb:=⟨_,rfl⟩;obtain⟨n1,n2,n3,n4⟩:=ZkC w w3 U3.out 92 [.int .i64 ak,.int .i64 al,.int .i64 (j:Int)] [.int .i64 ak,.int .i64 al,.int .i64 (i:Int)] wb hwb;have hz3:=U3.out.size;have b4:=B3.out.upd n4 id;have hg:=HH.out.upd n3 (fun _ _=>id);obtain⟨hown,hiwn,hp1,hp2,hoi,hij⟩:=HP.out;have howb:=Zb hown n3 (fun _ _=>id);have hzb:wb.heap.size≤wb.heap.size:=Nat.le_refl _;have hvl:∀k,Own (.slice A out[i].length c) k→base≤k∧k<w.heap.size:=fun k hk=>hown.lt k hk
   have hlow:=hg.low;have hne:=hg.ne;have t0:∀k,¬Own (.slice A out[i].length c) k→k≠ob→¬Zab (.slice A out[i].length c) ob k:=fun k h1 h2 e=>e.elim h1 h2
   have t5:∀k,k<base→¬Own (.slice A out[i].length c) k:=fun k hk e=>by have:=hvl _ e;omega
   have t6:∀k,w.heap.size≤k→¬Own (.slice A out[i].length c) k:=fun k hk e=>by have:=hvl _ e;omega
   have t1:¬Zab (.slice A out[i].length c) ob g:=t0 _ (t5 _ hlow.1) (by omega);have t2:¬Zab (.slice A out[i].length c) ob w.heap.size:=t0 _ (t6 _ (Nat.le_refl _)) (by omega);have t3:¬Zab (.slice A out[i].length c) ob w3.heap.size:=t0 _ (t6 _ hz3) (by omega);have t4:¬Zab (.slice A out[i].length c) ob (w3.heap.size+1):=t0 _ (t6 _ (by omega)) (by omega);have g0:∀W,Upd (Zab (.slice A out[i].length c) ob) wb W→W.cell? ⟨g,0,none⟩=some (.slice (some ⟨ob,0,none⟩) out.length out.length):=fun W hW=>(hg.blk.upd hW t1).cell 0
   have a0:∀W,Upd (Zab (.slice A out[i].length c) ob) wb W→W.cell? ⟨w.heap.size,0,none⟩=some (.int .i64 (i:Int)):=fun W hW=>(b4.upd hW t2).cell 0
   have e0:∀W,Upd (Zab (.slice A out[i].length c) ob) wb W→W.cell? ⟨w3.heap.size,0,none⟩=some (.int .i64 ak):=fun W hW=>(n1.upd hW t3).cell 0
   have e1:∀W,Upd (Zab (.slice A out[i].length c) ob) wb W→W.cell? ⟨w3.heap.size,1,none⟩=some (.int .i64 al):=fun W hW=>(n1.upd hW t3).cell 1
   have e2:∀W,Upd (Zab (.slice A out[i].length c) ob) wb W→W.cell? ⟨w3.heap.size,2,none⟩=some (.int .i64 (j:Int)):=fun W hW=>(n1.upd hW t3).cell 2
   have oi:wb.cell? ⟨ob,i,none⟩=some (.slice A out[i].length c):=by rw[hg.ob_.cell i];exact hoi
   have HC:=Qh (fun(W:World) (hW:Upd No wb W)=>Zrx W base A c out[i] ⟨ak,al,(j:Int)⟩ (ZK out[i] ⟨ak,al,(j:Int)⟩) (Zb howb hW (fun _ _=>id)) hp1 (by omega) (Nat.le_trans hbase (Nat.le_trans n3.size (Nat.le_trans hzb hW.size))));have hlo:i<oh.length:=(List.getElem?_eq_some_iff.1 hoi).1;have OB:=Qh (And.intro hg.ob_ (t5 ob hlow.2.1));have k1:(0:Int)≤(i:Int):=Qn _;have k2:(i:Int)<(out.length:Int):=by omega
   unfold DEnd.cells at HC;have ST:=Qh (And.intro hg (And.intro n3 (And.intro b4 (And.intro n2 (And.intro t2 (And.intro t4 hz3))))));rw[hwb];clear hwb n1 n2 n3 n4 b4 hg B3 U3 HH hown hiwn hp1 hp2 hoi hij howb hz3;clear hvl hlow hne t0 t1 t2 t3 t4 t5 t6 hzb;refine wp_region_noPanic ?_;refine wp_region_held_drew (S:=(fun w'=>Upd (Zab (.slice A out[i].length c) ob) wb w')) (by kernel_rfl) ?_ (fun hHeld=> ?_)
   ·(first|exact(Upd.refl _ _).drew|exact hHeld.trans hq)
   refine wpK 0 rfl ?_;refine wpK 1 rfl ?_;refine wpK 2 rfl ?_;refine wpK 3 rfl ?_;refine wpK 4 rfl ?_;refine wpK 5 rfl ?_;refine wpK 6 rfl ?_;refine wpK 7 rfl ?_;refine wpK 8 rfl ?_;refine wpK 9 rfl ?_;refine wpK 10 rfl ?_;refine wpK 11 rfl ?_;refine wpK 12 rfl ?_;refine wpK 14 rfl ?_;refine wpR [13] ?_;refine wpC rfl (fun K hK=> ?_) AllReadyH.nil;go_simp;refine hK.out _ _ ?_ (fun hHeld=> ?_)
   ·(first|exact(Upd.refl _ _).drew|exact hHeld.trans hq)
   clear hK K
   try simp only[Act.put,sT,sS,sZ]
   refine wpR [15] ?_;refine wpC rfl (fun K hK=> ?_) AllReadyH.nil;go_simp
   (first
  |(go_at_call 51;refine(HC.out _ (Upd.refl No _).drew).mono ?_;rintro e w4 ⟨A4,c4,rfl,ho4,hu4,hg4⟩;have hq:=hu4.mono (T:=Zab (.slice A out[i].length c) ob) (fun _ _ e=>Or.inl e);have H4:=Qh (And.intro ho4 (And.intro hu4 hg4));clear ho4 hu4 hg4))
   try (go_wp2_with fail)
   refine hK.out _ _ ?_ (fun hHeld=> ?_)
   ·(first|exact(Upd.refl _ _).drew|exact hHeld.trans hq)
   clear hK K
   try simp only[Act.put,sT,sS,sZ]
   refine wpK 16 rfl ?_;refine wpR [17] ?_;refine wpC rfl (fun K hK=> ?_) AllReadyH.nil
   (first
  |(refine ZfW rfl rfl (g:=ob) (i:=i) (t:=95) (old:=oh) rfl rfl (H4.out.2.1.blk OB.out.1 OB.out.2) (by kernel_rfl) hlo ?_;intro w5 hb5 hu5;have hq:=hu5.mono (T:=Zab (.slice A out[i].length c) ob) (fun _ _ e=>Or.inr e);have H5:=Qh (And.intro hb5 hu5);clear hb5 hu5))
   refine hK.out _ _ ?_ (fun hHeld=> ?_)
   ·(first|exact(Upd.refl _ _).drew|exact hHeld.trans hq)
   clear hK K
   try simp only[Act.put,sT,sS,sZ]
   refine wpD (NoPanic.normal ?_)
   all_goals
    obtain⟨hg,n3,b4,n2,t2,t4,hz3⟩:=ST.out;obtain⟨hown,hiwn,hp1,hp2,hoi,hij⟩:=HP.out;have HS6:=hHeld;have HG6:=hg.rowO hi hoi hHeld H5.out.1 (Zb H4.out.1 H5.out.2 (fun k hk e=>by have:=(H4.out.1.lt k hk).1;have:=hg.low;unfold One at e;omega)) H4.out.2.2 (Nat.le_trans (Nat.le_of_eq (Zcg out[i] (ZK out[i] ⟨ak,al,(j:Int)⟩) ⟨ak,al,(j:Int)⟩ hp1.1)) (by omega));have hiw6:=Zb (Zb hiwn n3 (fun _ _=>id)) hHeld (hg.apart hoi hij);have b4:=b4.upd hHeld t2;have n2:=n2.upd hHeld t4;have hlenO:inn.length=out.length:=hg.len;have hgb:Blk w5 g 89 [.slice (some ⟨ob,0,none⟩) out.length out.length,.slice (some ⟨ib,0,none⟩) out.length out.length,.int .i64 (n:Int)]:=by simpa using HG6.blk
    go_wp2;clear HC OB g0 a0 e0 e1 e2 oi k1 k2 hlo;have hzb:wb.heap.size≤w5.heap.size:=HS6.size;have hvl:∀k,Own (.slice B inn[j].length d) k→base≤k∧k<w.heap.size:=fun k hk=>hiwn.lt k hk
    have hlow:=HG6.low;have hne:=HG6.ne;have t0:∀k,¬Own (.slice B inn[j].length d) k→k≠ib→¬Zab (.slice B inn[j].length d) ib k:=fun k h1 h2 e=>e.elim h1 h2
    have t5:∀k,k<base→¬Own (.slice B inn[j].length d) k:=fun k hk e=>by have:=hvl _ e;omega
    have t6:∀k,w.heap.size≤k→¬Own (.slice B inn[j].length d) k:=fun k hk e=>by have:=hvl _ e;omega
    have t1:¬Zab (.slice B inn[j].length d) ib g:=t0 _ (t5 _ hlow.1) (by omega);have t2:¬Zab (.slice B inn[j].length d) ib w.heap.size:=t0 _ (t6 _ (Nat.le_refl _)) (by omega);have t3:¬Zab (.slice B inn[j].length d) ib w3.heap.size:=t0 _ (t6 _ hz3) (by omega);have t4:¬Zab (.slice B inn[j].length d) ib (w3.heap.size+1):=t0 _ (t6 _ (by omega)) (by omega);have g0:∀W,Upd (Zab (.slice B inn[j].length d) ib) w5 W→W.cell? ⟨g,1,none⟩=some (.slice (some ⟨ib,0,none⟩) out.length out.length):=fun W hW=>(hgb.upd hW t1).cell 1
    have a0:∀W,Upd (Zab (.slice B inn[j].length d) ib) w5 W→W.cell? ⟨w.heap.size,1,none⟩=some (.int .i64 (j:Int)):=fun W hW=>(b4.upd hW t2).cell 1
    have e0:∀W,Upd (Zab (.slice B inn[j].length d) ib) w5 W→W.cell? ⟨(w3.heap.size+1),0,none⟩=some (.int .i64 ak):=fun W hW=>(n2.upd hW t4).cell 0
    have e1:∀W,Upd (Zab (.slice B inn[j].length d) ib) w5 W→W.cell? ⟨(w3.heap.size+1),1,none⟩=some (.int .i64 al):=fun W hW=>(n2.upd hW t4).cell 1
    have e2:∀W,Upd (Zab (.slice B inn[j].length d) ib) w5 W→W.cell? ⟨(w3.heap.size+1),2,none⟩=some (.int .i64 (i:Int)):=fun W hW=>(n2.upd hW t4).cell 2
    have oi:w5.cell? ⟨ib,j,none⟩=some (.slice B inn[j].length d):=by rw[HG6.ib_.cell j];exact hij
    have HC:=Qh (fun(W:World) (hW:Upd No w5 W)=>Zrx W base B d inn[j] ⟨ak,al,(i:Int)⟩ (ZK inn[j] ⟨ak,al,(i:Int)⟩) (Zb hiw6 hW (fun _ _=>id)) hp2 (by omega) (Nat.le_trans hbase (Nat.le_trans n3.size (Nat.le_trans hzb hW.size))));have hlo:j<ih.length:=(List.getElem?_eq_some_iff.1 hij).1;have OB:=Qh (And.intro HG6.ib_ (t5 ib hlow.2.2));have k1:(0:Int)≤(j:Int):=Qn _;have k2:(j:Int)<(out.length:Int):=by omega
    unfold DEnd.cells at HC;have S6:=Qh (And.intro HG6 (And.intro HS6 (And.intro hiwn hij)));clear hg n3 b4 n2 t2 t4 hz3 hown hiwn hp1 hp2 hoi hij HS6 HG6 hiw6 hHeld hq hgb hlenO;clear hvl hlow hne t0 t1 t2 t3 t4 t5 t6 hzb;refine wp_region_noPanic ?_;refine wp_region_held_drew (S:=(fun w'=>Upd (Zab (.slice B inn[j].length d) ib) w5 w')) (by kernel_rfl) ?_ (fun hHeld=> ?_)
    ·(first|exact(Upd.refl _ _).drew|exact hHeld.trans hq)
    refine wpK 0 rfl ?_;refine wpK 1 rfl ?_;refine wpK 2 rfl ?_;refine wpK 3 rfl ?_;refine wpK 4 rfl ?_;refine wpK 5 rfl ?_;refine wpK 6 rfl ?_;refine wpK 7 rfl ?_;refine wpK 8 rfl ?_;refine wpK 9 rfl ?_;refine wpK 10 rfl ?_;refine wpK 11 rfl ?_;refine wpK 12 rfl ?_;refine wpK 14 rfl ?_;refine wpR [13] ?_;refine wpC rfl (fun K hK=> ?_) AllReadyH.nil;go_simp;refine hK.out _ _ ?_ (fun hHeld=> ?_)
    ·(first|exact(Upd.refl _ _).drew|exact hHeld.trans hq)
    clear hK K
    try simp only[Act.put,sT,sS,sZ]
    refine wpR [15] ?_;refine wpC rfl (fun K hK=> ?_) AllReadyH.nil;go_simp
    (first
  |(go_at_call 51;refine(HC.out _ (Upd.refl No _).drew).mono ?_;rintro e w6 ⟨A6,c6,rfl,ho4,hu4,hg4⟩;have hq:=hu4.mono (T:=Zab (.slice B inn[j].length d) ib) (fun _ _ e=>Or.inl e);have H6:=Qh (And.intro ho4 (And.intro hu4 hg4));clear ho4 hu4 hg4))
    try (go_wp2_with fail)
    refine hK.out _ _ ?_ (fun hHeld=> ?_)
    ·(first|exact(Upd.refl _ _).drew|exact hHeld.trans hq)
    clear hK K
    try simp only[Act.put,sT,sS,sZ]
    refine wpK 16 rfl ?_;refine wpR [17] ?_;refine wpC rfl (fun K hK=> ?_) AllReadyH.nil
    (first
  |(refine ZfW rfl rfl (g:=ib) (i:=j) (t:=95) (old:=ih) rfl rfl (H6.out.2.1.blk OB.out.1 OB.out.2) (by kernel_rfl) hlo ?_;intro w7 hb5 hu5;have hq:=hu5.mono (T:=Zab (.slice B inn[j].length d) ib) (fun _ _ e=>Or.inr e);have H7:=Qh (And.intro hb5 hu5);clear hb5 hu5))
    refine hK.out _ _ ?_ (fun hHeld=> ?_)
    ·(first|exact(Upd.refl _ _).drew|exact hHeld.trans hq)
    clear hK K
    try simp only[Act.put,sT,sS,sZ]
    refine wpD (NoPanic.normal ?_)
    all_goals
     obtain⟨HG6,HS6,hiwn,hij⟩:=S6.out;obtain⟨hg,n3,b4,n2,t2,t4,hz3⟩:=ST.out;obtain⟨hown,hiwn',hp1,hp2,hoi,hij'⟩:=HP.out;have HG7:=HG6.rowI hjn hij hHeld H7.out.1 (Zb H6.out.1 H7.out.2 (fun k hk e=>by have:=(H6.out.1.lt k hk).1;have:=HG6.low;unfold One at e;omega)) H6.out.2.2 (Nat.le_trans (Nat.le_of_eq (Zcg inn[j] (ZK inn[j] ⟨ak,al,(i:Int)⟩) ⟨ak,al,(i:Int)⟩ hp2.1)) (by omega));have hin:=hg.inG;have HU:=Qh (ZnY n3 HS6 hHeld (fun k e=>hin.2.2.2 _ (List.mem_append_left _ (List.mem_of_getElem? hoi)) k e) (fun k e=>hin.2.2.2 _ (List.mem_append_right _ (List.mem_of_getElem? hij)) k e) ⟨hin.2.1,hin.2.2.1⟩);have HGg:=Qh hin.1;have HR:=Qh (HG7.setN ((n:Int)+1));have c9:=HG7.blk.cell 2;simp only[Qz,Qs]at c9;have f9:=HG7.blk.free 2;have hw:IntKind.i64.wrap ((n:Int)+1)=(n:Int)+1:=IntWalk.i64_in _ (by omega);clear HG6 HS6 hiwn hij hg n3 b4 n2 t2 t4 hz3 hown hiwn' hp1 hp2 hoi hij' HG7 hin hHeld g0 a0 e0 e1 e2 oi hq;go_wp2
     go_ret
     rw[HX.out.1,HX.out.2.1,HX.out.2.2,HW.out,ZgX _ _ _ (by simpa using hi),ZgX _ _ _ (by simpa using hjn)];refine⟨_,_,_,rfl,HR.out,(HU.out.1.then_ (Upd.setOne (Upd.refl (One g) _) 2 _) (fun k e=> .inl (by unfold One at e;exact e▸HGg.out))),HU.out.2⟩
 ·have hR':Zx out.length a=false:=by simpa using hR
  rw[hR']at hn;have HW:=Qh (show ZcZ out a=1 by unfold ZcZ;rw[if_neg hR]);have HX:=Qh (show ZeK out a=out∧ZeM out inn a=inn∧ZeL out n a=n by unfold ZeK ZeM ZeL;rw[HW.out];exact⟨rfl,rfl,rfl⟩);clear hR hR' h hr hri hsz u0 bA HA HZ;obtain⟨af,at',ak,al⟩:=a;unfold HArc.cells at*
  go_enter Tryz.func12,Tryz.ntmps12
  go_wp2_with fail
  refine(hn.out).mono ?_;rintro e w1 ⟨rfl,hu1⟩;have hu:=Qh (U0.out.trans hu1);clear hu1 hn;go_wp2
  go_ret
  rw[HX.out.1,HX.out.2.1,HX.out.2.2,HW.out];exact HH.out.same hu.out _
end
end
/- Digraphs:an arc dropped. -/
section
open Go.RowKit
def ZiV (out:List (List DEnd)) (a:HArc):Int:=if Zdz out a=true then 0 else 3
def ZdG (l:List DEnd) (e:DEnd):List DEnd:=ZiW l (ZK l e)
def Zpv (out:List (List DEnd)) (a:HArc):List (List DEnd):=if ZiV out a=0 then out.modify a.f.toNat (ZdG · (ZaK a)) else out
def Zpw (out inn:List (List DEnd)) (a:HArc):List (List DEnd):=if ZiV out a=0 then inn.modify a.t.toNat (ZdG · (inE a)) else inn
theorem Zp3 {l:List DEnd} (h:ZaY l) {e:DEnd} (m:e∈l):ZK l e<l.length:=by
 have h1:=Zgo h e;rw[decide_eq_true m]at h1;unfold Zey at h1
 split at h1
 ·next x hx=>exact(List.getElem?_eq_some_iff.1 hx).1
 ·cases h1
section
variable {w:World} {G:Nat→Prop} {g:Nat} {out inn:List (List DEnd)} {n:Nat} {ob ib:Nat} {oh ih:List Value} {base:Nat}
end
end
/- Digraphs:a new one;a nil one. -/
section
open Go.RowKit
theorem Zn3:SlT Tryz.prog 87 95 1 24:=SlT.mk_ Tryz.underlying87 (z:= .slice none 0 0) (by kernel_rfl) rfl (by omega)
def Zb2 (n:Int):Nat:=(min (max n 0) 4096).toNat
theorem Zob (n:Int):Zb2 n≤4096:=by unfold Zb2;omega
def Zpi (w:World) (N:Nat) (e:Ending) (w':World):Prop:=
 ∃G g ob ib oh ih,e= .returned (.pointer (some ⟨g,0,none⟩))∧GIs w' G g (List.replicate N []) (List.replicate N []) 0 ob ib oh ih w'.heap.size∧Upd No w w'∧∀k,G k→w.heap.size≤k
theorem Zna (N:Nat):madeCells #[Value.slice none 0 0] (N*1)=(List.replicate N (Value.slice none 0 0)).toArray:=by
 apply Array.ext
 ·simp[madeCells]
 ·intro i h1 h2;simp[madeCells,Nat.mod_one]
theorem Zqq (w:World) (N:Nat) (hN:N≤4096) (a b:Nat) (hab:(a=w.heap.size∧b=w.heap.size+1)∨(a=w.heap.size+1∧b=w.heap.size)) (w':World) (u:Upd No w w') (hz:w'.heap.size=w.heap.size+3)
  (h1:Blk w' w.heap.size 95 (List.replicate N (.slice none 0 0))) (h2:Blk w' (w.heap.size+1) 95 (List.replicate N (.slice none 0 0)))
  (h3:Blk w' (w.heap.size+2) 89 [.slice (some ⟨a,0,none⟩) N N,.slice (some ⟨b,0,none⟩) N N,.int .i64 0]):Zpi w N (.returned (.pointer (some ⟨w.heap.size+2,0,none⟩))) w':=by
 have hd:RowsD w' w'.heap.size (List.replicate N (.slice none 0 0)) (List.replicate N []):=by
  refine⟨by simp,fun i hi=>⟨none,0,?_,?_⟩⟩
  ·simp at hi;simp[hi]
  ·simp only[List.getElem_replicate];exact World.ownsRow_nil _ _ _ _
 have hno:∀v∈List.replicate N (Value.slice none 0 0)++List.replicate N (Value.slice none 0 0),∀k,¬Own v k:=by
  intro v hv k hk;simp only[List.mem_append,List.mem_replicate,or_self]at hv;rw[hv.2]at hk;simp[Own,Value.ownBlock]at hk
 refine⟨fun k=>w.heap.size≤k∧k<w'.heap.size,w.heap.size+2,a,b,List.replicate N (.slice none 0 0),List.replicate N (.slice none 0 0),rfl,?_,u,fun k hk=>hk.1⟩;have ha:Blk w' a 95 (List.replicate N (.slice none 0 0)):=by rcases hab with ⟨rfl,_⟩|⟨rfl,_⟩<;>assumption
 have hb:Blk w' b 95 (List.replicate N (.slice none 0 0)):=by rcases hab with ⟨_,rfl⟩|⟨_,rfl⟩<;>assumption
 constructor
 case blk=>simpa using h3
 case ob_=>exact ha
 case ib_=>exact hb
 case len=>rfl
 case ro=>exact hd
 case ri=>exact hd
 case dis=>intro i j v u k hv hu hne hk;exact absurd hk (hno v (List.mem_of_getElem? hv) k)
 case low=>omega
 case ne=>omega
 case inG=>exact⟨by omega,by omega,by omega,fun v hv k hk=>absurd hk (hno v hv k)⟩
 case old=>exact fun k hk=>hk.2
 case few=>exact⟨by simpa using hN,fun l hl=>by simp at hl;simp[hl.2],fun l hl=>by simp at hl;simp[hl.2]⟩
def ZaM (N:Nat):Array Value:=(List.replicate N (Value.slice none 0 0)).toArray
theorem ZfK (N:Nat) (hN:N≤4096) (m:Int) (hm:m=(N:Int)) (W:World):(Instr.makeSlice 87 (.int .i64 m) (.int .i64 m)).run Tryz.prog W= .ok (.slice (some ⟨W.heap.size,0,none⟩) N N) (W.alloc (.cells (ZaM N) 95)):=by
 subst hm;unfold ZaM;rw[←Zna];exact ZeU W Zn3 (z:= .slice none 0 0) (by kernel_rfl) N (by omega) (by omega)
theorem Zdh (w:World) (N a b:Nat) (w':World) (e:((w.alloc (.cells (ZaM N) 95)).alloc (.cells (ZaM N) 95)).alloc (.cells #[.slice (some ⟨a,0,none⟩) N N,.slice (some ⟨b,0,none⟩) N N,.int .i64 0] 89)=w') (hN:N≤4096)
  (hab:(a=w.heap.size∧b=w.heap.size+1)∨(a=w.heap.size+1∧b=w.heap.size)):Zpi w N (.returned (.pointer (some ⟨w.heap.size+1+1,0,none⟩))) w'.drew:=by
 subst e;have e2:Blk ((w.alloc (.cells (ZaM N) 95)).alloc (.cells (ZaM N) 95)) (w.alloc (.cells (ZaM N) 95)).heap.size 95 (List.replicate N (.slice none 0 0)):=Blk.new _ _ _;have e3:=Blk.new ((w.alloc (.cells (ZaM N) 95)).alloc (.cells (ZaM N) 95)) 89 [.slice (some ⟨a,0,none⟩) N N,.slice (some ⟨b,0,none⟩) N N,.int .i64 0];rw[show(w.alloc (.cells (ZaM N) 95)).heap.size=w.heap.size+1 by simp]at e2;rw[show((w.alloc (.cells (ZaM N) 95)).alloc (.cells (ZaM N) 95)).heap.size=w.heap.size+2 by simp]at e3;refine Zqq w N hN a b hab _ ((((Upd.refl No w).alloc _).alloc _).alloc _).drew (by simp[World.drew]) ?_ ?_ ?_
 ·exact((Blk.new w 95 (List.replicate N (.slice none 0 0))).alloc _).alloc _
 ·exact e2.alloc _
 ·exact e3
set_option maxRecDepth 100000 in
theorem Zth (w:World) (n:Int):Calls Tryz.prog 11 #[.int .i64 n] w (Zpi w (Zb2 n)):=by
 obtain⟨N,hNN⟩:∃N,Zb2 n=N:=⟨_,rfl⟩;have hNle:N≤4096:=by rw[←hNN];exact Zob n
 have HN:=Qh hNN;have hmk2:=ZfK N hNle (min (max n 0) 4096) (by rw[←hNN];unfold Zb2;omega)
 by_cases h1:n<0
 ·have hmk:=ZfK N hNle 0 (by rw[←hNN];unfold Zb2;omega);clear hNN
  go_enter Tryz.func11,Tryz.ntmps11
  go_wp2;refine wp_region_noPanic ?_;refine wp_region_held_drew (S:=(fun _=>True)) (by kernel_rfl) ?_ (fun hHeld=> ?_)
  ·(trivial)
  refine wpK 0 rfl ?_;refine wpK 2 rfl ?_;refine wpR [1,3] ?_;refine wpC rfl (fun K hK=> ?_) ?_
  ·go_simp;refine hK.out _ _ ?_ (fun hHeld=> ?_)
   ·(trivial)
   clear hK K
   try simp only[Act.put,sT,sS,sZ]
   refine wpR [3] ?_;refine wpC rfl (fun K hK=> ?_) AllReadyH.nil;go_simp;refine hK.out _ _ ?_ (fun hHeld=> ?_)
   ·(trivial)
   clear hK K
   try simp only[Act.put,sT,sS,sZ]
   refine wpK 4 rfl ?_;refine wpR [5] ?_;refine wpC rfl (fun K hK=> ?_) AllReadyH.nil;go_simp;refine hK.out _ _ ?_ (fun hHeld=> ?_)
   ·(trivial)
   clear hK K
   try simp only[Act.put,sT,sS,sZ]
   refine wpK 6 rfl ?_;refine wpD (NoPanic.normal ?_);go_wp2
   go_ret
   rw[HN.out];refine Zdh w N _ _ _ rfl hNle ?_;simp
  refine wpC rfl (fun K hK=> ?_) AllReadyH.nil;go_simp;refine hK.out _ _ ?_ (fun hHeld=> ?_)
  ·(trivial)
  clear hK K
  try simp only[Act.put,sT,sS,sZ]
  refine wpR [1] ?_;refine wpC rfl (fun K hK=> ?_) AllReadyH.nil;go_simp;refine hK.out _ _ ?_ (fun hHeld=> ?_)
  ·(trivial)
  clear hK K
  try simp only[Act.put,sT,sS,sZ]
  refine wpK 4 rfl ?_;refine wpR [5] ?_;refine wpC rfl (fun K hK=> ?_) AllReadyH.nil;go_simp;refine hK.out _ _ ?_ (fun hHeld=> ?_)
  ·(trivial)
  clear hK K
  try simp only[Act.put,sT,sS,sZ]
  refine wpK 6 rfl ?_;refine wpD (NoPanic.normal ?_);go_wp2
  go_ret
  rw[HN.out];refine Zdh w N _ _ _ rfl hNle ?_;simp
 ·by_cases h2:4096<n
  ·have hmk:=ZfK N hNle 4096 (by rw[←hNN];unfold Zb2;omega);clear hNN
   go_enter Tryz.func11,Tryz.ntmps11
   go_wp2;refine wp_region_noPanic ?_;refine wp_region_held_drew (S:=(fun _=>True)) (by kernel_rfl) ?_ (fun hHeld=> ?_)
   ·(trivial)
   refine wpK 0 rfl ?_;refine wpK 2 rfl ?_;refine wpR [1,3] ?_;refine wpC rfl (fun K hK=> ?_) ?_
   ·go_simp;refine hK.out _ _ ?_ (fun hHeld=> ?_)
    ·(trivial)
    clear hK K
    try simp only[Act.put,sT,sS,sZ]
    refine wpR [3] ?_;refine wpC rfl (fun K hK=> ?_) AllReadyH.nil;go_simp;refine hK.out _ _ ?_ (fun hHeld=> ?_)
    ·(trivial)
    clear hK K
    try simp only[Act.put,sT,sS,sZ]
    refine wpK 4 rfl ?_;refine wpR [5] ?_;refine wpC rfl (fun K hK=> ?_) AllReadyH.nil;go_simp;refine hK.out _ _ ?_ (fun hHeld=> ?_)
    ·(trivial)
    clear hK K
    try simp only[Act.put,sT,sS,sZ]
    refine wpK 6 rfl ?_;refine wpD (NoPanic.normal ?_);go_wp2
    go_ret
    rw[HN.out];refine Zdh w N _ _ _ rfl hNle ?_;simp
   refine wpC rfl (fun K hK=> ?_) AllReadyH.nil;go_simp;refine hK.out _ _ ?_ (fun hHeld=> ?_)
   ·(trivial)
   clear hK K
   try simp only[Act.put,sT,sS,sZ]
   refine wpR [1] ?_;refine wpC rfl (fun K hK=> ?_) AllReadyH.nil;go_simp;refine hK.out _ _ ?_ (fun hHeld=> ?_)
   ·(trivial)
   clear hK K
   try simp only[Act.put,sT,sS,sZ]
   refine wpK 4 rfl ?_;refine wpR [5] ?_;refine wpC rfl (fun K hK=> ?_) AllReadyH.nil;go_simp;refine hK.out _ _ ?_ (fun hHeld=> ?_)
   ·(trivial)
   clear hK K
   try simp only[Act.put,sT,sS,sZ]
   refine wpK 6 rfl ?_;refine wpD (NoPanic.normal ?_);go_wp2
   go_ret
   rw[HN.out];refine Zdh w N _ _ _ rfl hNle ?_;simp
  ·have hmk:=ZfK N hNle n (by rw[←hNN];unfold Zb2;omega);clear hNN
   go_enter Tryz.func11,Tryz.ntmps11
   go_wp2;refine wp_region_noPanic ?_;refine wp_region_held_drew (S:=(fun _=>True)) (by kernel_rfl) ?_ (fun hHeld=> ?_)
   ·(trivial)
   refine wpK 0 rfl ?_;refine wpK 2 rfl ?_;refine wpR [1,3] ?_;refine wpC rfl (fun K hK=> ?_) ?_
   ·go_simp;refine hK.out _ _ ?_ (fun hHeld=> ?_)
    ·(trivial)
    clear hK K
    try simp only[Act.put,sT,sS,sZ]
    refine wpR [3] ?_;refine wpC rfl (fun K hK=> ?_) AllReadyH.nil;go_simp;refine hK.out _ _ ?_ (fun hHeld=> ?_)
    ·(trivial)
    clear hK K
    try simp only[Act.put,sT,sS,sZ]
    refine wpK 4 rfl ?_;refine wpR [5] ?_;refine wpC rfl (fun K hK=> ?_) AllReadyH.nil;go_simp;refine hK.out _ _ ?_ (fun hHeld=> ?_)
    ·(trivial)
    clear hK K
    try simp only[Act.put,sT,sS,sZ]
    refine wpK 6 rfl ?_;refine wpD (NoPanic.normal ?_);go_wp2
    go_ret
    rw[HN.out];refine Zdh w N _ _ _ rfl hNle ?_;simp
   refine wpC rfl (fun K hK=> ?_) AllReadyH.nil;go_simp;refine hK.out _ _ ?_ (fun hHeld=> ?_)
   ·(trivial)
   clear hK K
   try simp only[Act.put,sT,sS,sZ]
   refine wpR [1] ?_;refine wpC rfl (fun K hK=> ?_) AllReadyH.nil;go_simp;refine hK.out _ _ ?_ (fun hHeld=> ?_)
   ·(trivial)
   clear hK K
   try simp only[Act.put,sT,sS,sZ]
   refine wpK 4 rfl ?_;refine wpR [5] ?_;refine wpC rfl (fun K hK=> ?_) AllReadyH.nil;go_simp;refine hK.out _ _ ?_ (fun hHeld=> ?_)
   ·(trivial)
   clear hK K
   try simp only[Act.put,sT,sS,sZ]
   refine wpK 6 rfl ?_;refine wpD (NoPanic.normal ?_);go_wp2
   go_ret
   rw[HN.out];refine Zdh w N _ _ _ rfl hNle ?_;simp
end
/- Digraphs:masks. -/
section
open Go.RowKit
def ZS (mask kind:Int):Bool:=decide ((mask/2 ^ kind.toNat)%2=1)
theorem ZqJ (x:Int) (y:Nat) (hy:y≤8):bits .and .i64 x (y:Int)=(((x%18446744073709551616).toNat &&& y:Nat):Int):=by
 change IntKind.i64.wrap (((BitVec.ofInt 64 x &&& BitVec.ofInt 64 (y:Int)).toNat:Nat):Int)=_;have h1:(BitVec.ofInt 64 x).toNat=(x%18446744073709551616).toNat:=by rw[BitVec.toNat_ofInt];rfl
 have h2:(BitVec.ofInt 64 (y:Int)).toNat=y:=by rw[BitVec.toNat_ofInt];omega
 rw[BitVec.toNat_and,h1,h2];have h3:(x%18446744073709551616).toNat &&& y≤y:=Nat.and_le_right;exact IntWalk.i64_in _ (by omega)
theorem ZeJ (x:Int):(bits .and .i64 x 1==1)=decide (x%2=1):=by
 have h:=ZqJ x 1 (by omega);rw[Nat.and_one_is_mod]at h;have h':bits .and .i64 x 1=(((x%18446744073709551616).toNat%2:Nat):Int):=h;rw[h',Bool.eq_iff_iff,beq_iff_eq,decide_eq_true_eq];omega
theorem dof (w:World) (mask kind:Int) (h1:1≤kind) (h2:kind≤3):Calls Tryz.prog 218 #[.int .i64 mask,.int .i64 kind] w fun e w'=>e= .returned (.bool (ZS mask kind))∧w=w':=by
 have hk:kind=1∨kind=2∨kind=3:=by omega
 clear h1 h2;rcases hk with rfl|rfl|rfl
 all_goals
  go_enter Tryz.func218,Tryz.ntmps218
  go_wp2
  go_ret
  exact⟨congrArg (fun b=>Ending.returned (.bool b)) (ZeJ _),rfl⟩
end
end Go.Proofs.YtonblekdfinpkaaGreat
