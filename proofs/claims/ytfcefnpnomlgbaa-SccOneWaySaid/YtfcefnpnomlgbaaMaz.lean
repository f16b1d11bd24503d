/- Digraphs: an arc added. -/
import Derived.Test.YtfcefnpnomlgbaaMay
namespace Go.Proofs.Ytfcefnpnomlgbaa
set_option linter.unusedSimpArgs false
set_option linter.unusedVariables false
open Go.RowKit
def ZaF (out:List (List DEnd)) (a:HArc):Int:=if Zd out.length a=true then (if ZaU out a=true then 4 else 0) else 1
def Za6 (l:List DEnd) (e:DEnd):List DEnd:=ZQ l (Ze l e) e
def Zbq (out:List (List DEnd)) (a:HArc):List (List DEnd):=if ZaF out a=0 then out.modify a.f.toNat (Za6 · (Zx a)) else out
def Zbs (out inn:List (List DEnd)) (a:HArc):List (List DEnd):=if ZaF out a=0 then inn.modify a.t.toNat (Za6 · (inE a)) else inn
def Zbr (out:List (List DEnd)) (n:Int) (a:HArc):Int:=if ZaF out a=0 then n+1 else n
def DTo (w:World) (G:Nat→Prop) (g:Nat) (out inn:List (List DEnd)) (n:Int) (ob ib:Nat) (base:Nat) (r:Value) (e:Ending) (w':World):Prop:=
 ∃G' oh' ih',e= .returned r∧GIs w' G' g out inn n ob ib oh' ih' base∧Upd G w w'∧∀k,G' k→G k∨w.heap.size≤k
theorem GIs.same {w w':World} {G:Nat→Prop} {g:Nat} {out inn:List (List DEnd)} {n:Int} {ob ib:Nat} {oh ih:List Value} {base:Nat} (h:GIs w G g out inn n ob ib oh ih base) (k:Upd No w w') (r:Value):DTo w G g out inn n ob ib base r (.returned r) w':=
 ⟨G,oh,ih,rfl,h.upd k (fun _ _=>id),k.mono (fun _ _ e=>e.elim),fun _ e=> .inl e⟩
def Zk (v:Value) (b:Nat):Nat→Prop:=fun k=>Own v k∨k=b
theorem Ze8 (l:List DEnd) (e:DEnd) (h:Zc3 l e (Ze l e)):(Za6 l e).length=l.length+1:=Zah l _ e h.1
theorem GIs.apart {w:World} {G:Nat→Prop} {g:Nat} {out inn:List (List DEnd)} {n:Int} {ob ib:Nat} {oh ih:List Value} {base:Nat} (h:GIs w G g out inn n ob ib oh ih base) {i j:Nat} {v u:Value} (hv:oh[i]? =some v) (hu:ih[j]? =some u):∀k,u.ownBlock=some k→¬Zk v ob k:=by
 rintro k hk (e|e)
 ·exact h.dis i (oh.length+j) v u k (by rw[List.getElem?_append_left (List.getElem?_eq_some_iff.1 hv).1];exact hv) (by rw[List.getElem?_append_right (by omega)];simpa using hu) (by have:=(List.getElem?_eq_some_iff.1 hv).1;omega) e hk
 ·obtain⟨hj,rfl⟩:=List.getElem?_eq_some_iff.1 hu
  obtain⟨B,d,h1,h2⟩:=h.ri.2 j (by rw[←h.ri.1];exact hj)
  rw[List.getElem?_eq_getElem hj]at h1
  rw[Option.some.inj h1]at hk
  have:=(h2.lt _ hk).1
  have:=h.low
  omega
theorem Zcj {α:Type} (l:List α) (f:α→α) (i:Nat) (h:i<l.length):l.modify i f=l.set i (f l[i]):=by
 apply List.ext_getElem
 ·simp
 ·intro k h1 h2
  rw[List.getElem_modify,List.getElem_set]
  split
  ·next e=>subst e;rfl
  ·rfl
theorem GIs.setN {w:World} {G:Nat→Prop} {g:Nat} {out inn:List (List DEnd)} {n:Int} {ob ib:Nat} {oh ih:List Value} {base:Nat} (h:GIs w G g out inn n ob ib oh ih base) (m:Int):GIs (w.setCell ⟨g,2,none⟩ (.int .i64 m)) G g out inn m ob ib oh ih base:=by
 have u:=Upd.setOne (Upd.refl (One g) w) 2 (.int .i64 m)
 have hl:=h.low
 exact {h with
  blk:=h.blk.set_ 2 (.int .i64 m)
  ob_:=h.ob_.upd u (fun e=>h.ne.1 e.symm)
  ib_:=h.ib_.upd u (fun e=>h.ne.2.1 e.symm)
  ro:=⟨h.ro.1,fun i hi=>by
   obtain⟨A,c,h1,h2⟩:=h.ro.2 i hi
   exact⟨A,c,h1,Zb h2 u (fun k hk e=>by have:=(h2.lt k hk).1;unfold One at e;omega)⟩⟩
  ri:=⟨h.ri.1,fun i hi=>by
   obtain⟨A,c,h1,h2⟩:=h.ri.2 i hi
   exact⟨A,c,h1,Zb h2 u (fun k hk e=>by have:=(h2.lt k hk).1;unfold One at e;omega)⟩⟩
  old:=fun k hk=>Nat.lt_of_lt_of_le (h.old k hk) u.size}
theorem ZeY {w wb w5 w7:World} {G:Nat→Prop} {v u:Value} {ob ib:Nat} (h1:Upd No w wb) (h2:Upd (Zk v ob) wb w5) (h3:Upd (Zk u ib) w5 w7) (hv:∀k,Own v k→G k) (hu:∀k,Own u k→G k) (hb:G ob∧G ib):
  Upd G w w7∧∀k,GG w5 w7 (GG wb w5 G) k→G k∨w.heap.size≤k:=by
 have a1:Upd G w wb:=h1.mono (fun _ _ e=>e.elim)
 have a2:Upd G w w5:=a1.then_ h2 (by rintro k (e|rfl);exact .inl (hv k e);exact .inl hb.1)
 refine⟨a2.then_ h3 (by rintro k (e|rfl);exact .inl (hu k e);exact .inl hb.2),?_⟩
 have z1:=h1.size
 have z2:=h2.size
 rintro k ((e|e)|e)
 ·exact .inl e
 ·exact .inr (by omega)
 ·exact .inr (by omega)
section
variable {w:World} {G:Nat→Prop} {g:Nat} {out inn:List (List DEnd)} {n:Nat} {ob ib:Nat} {oh ih:List Value} {base:Nat}
set_option maxRecDepth 100000 in
set_option maxHeartbeats 2000000 in
theorem Zg9 (h:GIs w G g out inn n ob ib oh ih base) (hr:∀l∈out,ZE l) (hri:∀l∈inn,ZE l) (hsz:(∀l∈out,l.length<100000)∧(∀l∈inn,l.length<100000)) (hnn:n<1000000) (hbase:base≤w.heap.size) (a:HArc):
  Calls Try.prog 21 #[.pointer (some ⟨g,0,none⟩),.agg a.cells.toArray] w (DTo w G g (Zbq out a) (Zbs out inn a) (Zbr out n a) ob ib base (.int .i64 (ZaF out a))):=by
 have u0:=(Upd.refl No w).alloc (.cells a.cells.toArray 28)
 have hn:=Lib.hid (ZeM (h.upd u0 (fun _ _=>id)) a)
 have HA:=Lib.hid (fun(W:World) (k:Upd No w W)=>Zg7 (h.upd k (fun _ _=>id)) hr a)
 have bA:=Lib.hid (Blk.new w 28 a.cells)
 have HH:=Lib.hid h
 have U0:=Lib.hid u0
 have HZ:=Lib.hid (And.intro hsz (And.intro hr hri))
 by_cases hR:Zd out.length a=true
 ·obtain⟨i,j,e1,e2,hi,hj⟩:=Z9 hR
  rw[hR]at hn
  by_cases hh:ZaU out a=true
  ·have HW:=Lib.hid (show ZaF out a=4 by unfold ZaF;rw[if_pos hR,if_pos hh])
   have HX:=Lib.hid (show Zbq out a=out∧Zbs out inn a=inn∧Zbr out n a=n by unfold Zbq Zbs Zbr;rw[HW.out];exact⟨rfl,rfl,rfl⟩)
   rw[hh]at HA
   clear hR hh h hr hri hsz u0 HZ e1 e2 hi hj
   obtain⟨af,at',ak,al⟩:=a
   unfold HArc.cells at*
   go_enter Try.func21,Try.ntmps21
   go_wp2_with fail
   refine(hn.out).mono ?_
   rintro e w1 ⟨rfl,hu1⟩
   have b1:=bA.out.upd hu1 id
   have c0:=b1.cell 0
   have c1:=b1.cell 1
   have c2:=b1.cell 2
   have c3:=b1.cell 3
   simp only[List.getElem?_cons_zero,List.getElem?_cons_succ]at c0 c1 c2 c3
   have U1:=Lib.hid (U0.out.trans hu1)
   clear b1 hu1 hn bA U0
   go_wp2_with fail
   refine((HA.out _ U1.out)).mono ?_
   rintro e w2 ⟨rfl,hu2⟩
   have U2:=Lib.hid (U1.out.trans hu2)
   clear U1 hu2 c0 c1 c2 c3 HA
   go_wp2
   go_ret
   rw[HX.out.1,HX.out.2.1,HX.out.2.2,HW.out]
   exact HH.out.same U2.out _
  ·have hf:ZaU out a=false:=by simpa using hh
   have HW:=Lib.hid (show ZaF out a=0 by unfold ZaF;rw[if_pos hR,if_neg hh])
   rw[hf]at HA
   have HX:=Lib.hid (show Zbq out a=out.modify a.f.toNat (Za6 · (Zx a))∧Zbs out inn a=inn.modify a.t.toNat (Za6 · (inE a))∧Zbr out n a=n+1 by unfold Zbq Zbs Zbr;rw[HW.out];exact⟨rfl,rfl,rfl⟩)
   have hjn:j<inn.length:=by rw[h.len];exact hj
   obtain⟨A,c,hoi,hown⟩:=h.ro.2 i hi
   obtain⟨B,d,hij,hiwn⟩:=h.ri.2 j hjn
   have HE:=Lib.hid (fun(W:World)=>ZfI W a)
   have hl1:=hsz.1 _ (List.getElem_mem hi)
   have hl2:=hsz.2 _ (List.getElem_mem hjn)
   have hp1:=Z3 (hr _ (List.getElem_mem hi)) (Zx a)
   have hp2:=Z3 (hri _ (List.getElem_mem hjn)) (inE a)
   have HP:=Lib.hid (And.intro hown (And.intro hiwn (And.intro hp1 (And.intro hp2 (And.intro hoi hij)))))
   obtain⟨af,at',ak,al⟩:=a
   subst e1 e2
   unfold HArc.cells at*
   simp only[Zx,inE,DEnd.cells]at HE
   clear hR hh hf h hr hri hsz u0 HZ hown hiwn hp1 hp2 hoi hij
   go_enter Try.func21,Try.ntmps21
   go_wp2_with fail
   refine(hn.out).mono ?_
   rintro e w1 ⟨rfl,hu1⟩
   have b1:=bA.out.upd hu1 id
   have c0:=b1.cell 0
   have c1:=b1.cell 1
   have c2:=b1.cell 2
   have c3:=b1.cell 3
   simp only[List.getElem?_cons_zero,List.getElem?_cons_succ]at c0 c1 c2 c3
   have U1:=Lib.hid (U0.out.trans hu1)
   have B1:=Lib.hid b1
   clear b1 hu1 hn bA U0
   go_wp2_with fail
   refine((HA.out _ U1.out)).mono ?_
   rintro e w2 ⟨rfl,hu2⟩
   have b1:=B1.out.upd hu2 id
   have c0:=b1.cell 0
   have c1:=b1.cell 1
   have c2:=b1.cell 2
   have c3:=b1.cell 3
   simp only[List.getElem?_cons_zero,List.getElem?_cons_succ]at c0 c1 c2 c3
   have U2:=Lib.hid (U1.out.trans hu2)
   have B2:=Lib.hid b1
   clear b1 U1 B1 hu2 HA
   go_wp2_with fail
   refine((HE.out _)).mono ?_
   rintro e w3 ⟨rfl,hu3⟩
   have U3:=Lib.hid (U2.out.trans hu3)
   have B3:=Lib.hid (B2.out.upd hu3 id)
   clear B2 U2 hu3 c0 c1 c2 c3 HE
   go_wp2
   obtain⟨wb,hwb⟩:∃wb,(w3.alloc (.cells #[.int .i64 ak,.int .i64 al,.int .i64 (j:Int)] 72)).alloc (.cells #[.int .i64 ak,.int .i64 al,.int .i64 (i:Int)] 72)=wb:=⟨_,rfl⟩
   obtain⟨n1,n2,n3,n4⟩:=ZdL w w3 U3.out 72 [.int .i64 ak,.int .i64 al,.int .i64 (j:Int)] [.int .i64 ak,.int .i64 al,.int .i64 (i:Int)] wb hwb
   have hz3:=U3.out.size
   have b4:=B3.out.upd n4 id
   have hg:=HH.out.upd n3 (fun _ _=>id)
   obtain⟨hown,hiwn,hp1,hp2,hoi,hij⟩:=HP.out
   have howb:=Zb hown n3 (fun _ _=>id)
   have hzb:wb.heap.size≤wb.heap.size:=Nat.le_refl _
   have hvl:∀k,Own (.slice A out[i].length c) k→base≤k∧k<w.heap.size:=fun k hk=>hown.lt k hk
   have hlow:=hg.low
   have hne:=hg.ne
   have t0:∀k,¬Own (.slice A out[i].length c) k→k≠ob→¬Zk (.slice A out[i].length c) ob k:=fun k h1 h2 e=>e.elim h1 h2
   have t5:∀k,k<base→¬Own (.slice A out[i].length c) k:=fun k hk e=>by have:=hvl _ e;omega
   have t6:∀k,w.heap.size≤k→¬Own (.slice A out[i].length c) k:=fun k hk e=>by have:=hvl _ e;omega
   have t1:¬Zk (.slice A out[i].length c) ob g:=t0 _ (t5 _ hlow.1) (by omega)
   have t2:¬Zk (.slice A out[i].length c) ob w.heap.size:=t0 _ (t6 _ (Nat.le_refl _)) (by omega)
   have t3:¬Zk (.slice A out[i].length c) ob w3.heap.size:=t0 _ (t6 _ hz3) (by omega)
   have t4:¬Zk (.slice A out[i].length c) ob (w3.heap.size+1):=t0 _ (t6 _ (by omega)) (by omega)
   have g0:∀W,Upd (Zk (.slice A out[i].length c) ob) wb W→W.cell? ⟨g,0,none⟩=some (.slice (some ⟨ob,0,none⟩) out.length out.length):=fun W hW=>(hg.blk.upd hW t1).cell 0
   have a0:∀W,Upd (Zk (.slice A out[i].length c) ob) wb W→W.cell? ⟨w.heap.size,0,none⟩=some (.int .i64 (i:Int)):=fun W hW=>(b4.upd hW t2).cell 0
   have e0:∀W,Upd (Zk (.slice A out[i].length c) ob) wb W→W.cell? ⟨w3.heap.size,0,none⟩=some (.int .i64 ak):=fun W hW=>(n1.upd hW t3).cell 0
   have e1:∀W,Upd (Zk (.slice A out[i].length c) ob) wb W→W.cell? ⟨w3.heap.size,1,none⟩=some (.int .i64 al):=fun W hW=>(n1.upd hW t3).cell 1
   have e2:∀W,Upd (Zk (.slice A out[i].length c) ob) wb W→W.cell? ⟨w3.heap.size,2,none⟩=some (.int .i64 (j:Int)):=fun W hW=>(n1.upd hW t3).cell 2
   have oi:wb.cell? ⟨ob,i,none⟩=some (.slice A out[i].length c):=by rw[hg.ob_.cell i];exact hoi
   have HC:=Lib.hid (fun(W:World) (hW:Upd No wb W)=>Zgn W base A c out[i] ⟨ak,al,(j:Int)⟩ (Ze out[i] ⟨ak,al,(j:Int)⟩) (Zb howb hW (fun _ _=>id)) hp1 (by omega) (Nat.le_trans hbase (Nat.le_trans n3.size (Nat.le_trans hzb hW.size))))
   have hlo:i<oh.length:=(List.getElem?_eq_some_iff.1 hoi).1
   have OB:=Lib.hid (And.intro hg.ob_ (t5 ob hlow.2.1))
   have k1:(0:Int)≤(i:Int):=Int.natCast_nonneg _
   have k2:(i:Int)<(out.length:Int):=by omega
   unfold DEnd.cells at HC
   have ST:=Lib.hid (And.intro hg (And.intro n3 (And.intro b4 (And.intro n2 (And.intro t2 (And.intro t4 hz3))))))
   rw[hwb]
   clear hwb n1 n2 n3 n4 b4 hg B3 U3 HH hown hiwn hp1 hp2 hoi hij howb hz3
   clear hvl hlow hne t0 t1 t2 t3 t4 t5 t6 hzb
   refine wp_region_noPanic ?_
   refine wp_region_held_drew (S:=(fun w'=>Upd (Zk (.slice A out[i].length c) ob) wb w')) (by kernel_rfl) ?_ (fun hHeld=> ?_)
   ·(first|exact(Upd.refl _ _).drew|exact hHeld.trans hq)
   refine wpK 0 rfl ?_
   refine wpK 1 rfl ?_
   refine wpK 2 rfl ?_
   refine wpK 3 rfl ?_
   refine wpK 4 rfl ?_
   refine wpK 5 rfl ?_
   refine wpK 6 rfl ?_
   refine wpK 7 rfl ?_
   refine wpK 8 rfl ?_
   refine wpK 9 rfl ?_
   refine wpK 10 rfl ?_
   refine wpK 11 rfl ?_
   refine wpK 12 rfl ?_
   refine wpK 14 rfl ?_
   refine wpR [13] ?_
   refine wpC rfl (fun K hK=> ?_) AllReadyH.nil
   go_simp
   refine hK.out _ _ ?_ (fun hHeld=> ?_)
   ·(first|exact(Upd.refl _ _).drew|exact hHeld.trans hq)
   clear hK K
   try simp only[Act.put,sT,sS,sZ]
   refine wpR [15] ?_
   refine wpC rfl (fun K hK=> ?_) AllReadyH.nil
   go_simp
   (first
  |(go_at_call 39;refine(HC.out _ (Upd.refl No _).drew).mono ?_;rintro e w4 ⟨A4,c4,rfl,ho4,hu4,hg4⟩;have hq:=hu4.mono (T:=Zk (.slice A out[i].length c) ob) (fun _ _ e=>Or.inl e);have H4:=Lib.hid (And.intro ho4 (And.intro hu4 hg4));clear ho4 hu4 hg4))
   try (go_wp2_with fail)
   refine hK.out _ _ ?_ (fun hHeld=> ?_)
   ·(first|exact(Upd.refl _ _).drew|exact hHeld.trans hq)
   clear hK K
   try simp only[Act.put,sT,sS,sZ]
   refine wpK 16 rfl ?_
   refine wpR [17] ?_
   refine wpC rfl (fun K hK=> ?_) AllReadyH.nil
   (first
  |(refine ZbR rfl rfl (g:=ob) (i:=i) (t:=66) (old:=oh) rfl rfl (H4.out.2.1.blk OB.out.1 OB.out.2) (by kernel_rfl) hlo ?_;intro w5 hb5 hu5;have hq:=hu5.mono (T:=Zk (.slice A out[i].length c) ob) (fun _ _ e=>Or.inr e);have H5:=Lib.hid (And.intro hb5 hu5);clear hb5 hu5))
   refine hK.out _ _ ?_ (fun hHeld=> ?_)
   ·(first|exact(Upd.refl _ _).drew|exact hHeld.trans hq)
   clear hK K
   try simp only[Act.put,sT,sS,sZ]
   refine wpD (NoPanic.normal ?_)
   all_goals
    obtain⟨hg,n3,b4,n2,t2,t4,hz3⟩:=ST.out
    obtain⟨hown,hiwn,hp1,hp2,hoi,hij⟩:=HP.out
    have HS6:=hHeld
    have HG6:=hg.rowO hi hoi hHeld H5.out.1 (Zb H4.out.1 H5.out.2 (fun k hk e=>by have:=(H4.out.1.lt k hk).1;have:=hg.low;unfold One at e;omega)) H4.out.2.2 (Nat.le_trans (Nat.le_of_eq (Zah out[i] (Ze out[i] ⟨ak,al,(j:Int)⟩) ⟨ak,al,(j:Int)⟩ hp1.1)) (by omega))
    have hiw6:=Zb (Zb hiwn n3 (fun _ _=>id)) hHeld (hg.apart hoi hij)
    have b4:=b4.upd hHeld t2
    have n2:=n2.upd hHeld t4
    have hlenO:inn.length=out.length:=hg.len
    have hgb:Blk w5 g 69 [.slice (some ⟨ob,0,none⟩) out.length out.length,.slice (some ⟨ib,0,none⟩) out.length out.length,.int .i64 (n:Int)]:=by simpa using HG6.blk
    go_wp2
    clear HC OB g0 a0 e0 e1 e2 oi k1 k2 hlo
    have hzb:wb.heap.size≤w5.heap.size:=HS6.size
    have hvl:∀k,Own (.slice B inn[j].length d) k→base≤k∧k<w.heap.size:=fun k hk=>hiwn.lt k hk
    have hlow:=HG6.low
    have hne:=HG6.ne
    have t0:∀k,¬Own (.slice B inn[j].length d) k→k≠ib→¬Zk (.slice B inn[j].length d) ib k:=fun k h1 h2 e=>e.elim h1 h2
    have t5:∀k,k<base→¬Own (.slice B inn[j].length d) k:=fun k hk e=>by have:=hvl _ e;omega
    have t6:∀k,w.heap.size≤k→¬Own (.slice B inn[j].length d) k:=fun k hk e=>by have:=hvl _ e;omega
    have t1:¬Zk (.slice B inn[j].length d) ib g:=t0 _ (t5 _ hlow.1) (by omega)
    have t2:¬Zk (.slice B inn[j].length d) ib w.heap.size:=t0 _ (t6 _ (Nat.le_refl _)) (by omega)
    have t3:¬Zk (.slice B inn[j].length d) ib w3.heap.size:=t0 _ (t6 _ hz3) (by omega)
    have t4:¬Zk (.slice B inn[j].length d) ib (w3.heap.size+1):=t0 _ (t6 _ (by omega)) (by omega)
    have g0:∀W,Upd (Zk (.slice B inn[j].length d) ib) w5 W→W.cell? ⟨g,1,none⟩=some (.slice (some ⟨ib,0,none⟩) out.length out.length):=fun W hW=>(hgb.upd hW t1).cell 1
    have a0:∀W,Upd (Zk (.slice B inn[j].length d) ib) w5 W→W.cell? ⟨w.heap.size,1,none⟩=some (.int .i64 (j:Int)):=fun W hW=>(b4.upd hW t2).cell 1
    have e0:∀W,Upd (Zk (.slice B inn[j].length d) ib) w5 W→W.cell? ⟨(w3.heap.size+1),0,none⟩=some (.int .i64 ak):=fun W hW=>(n2.upd hW t4).cell 0
    have e1:∀W,Upd (Zk (.slice B inn[j].length d) ib) w5 W→W.cell? ⟨(w3.heap.size+1),1,none⟩=some (.int .i64 al):=fun W hW=>(n2.upd hW t4).cell 1
    have e2:∀W,Upd (Zk (.slice B inn[j].length d) ib) w5 W→W.cell? ⟨(w3.heap.size+1),2,none⟩=some (.int .i64 (i:Int)):=fun W hW=>(n2.upd hW t4).cell 2
    have oi:w5.cell? ⟨ib,j,none⟩=some (.slice B inn[j].length d):=by rw[HG6.ib_.cell j];exact hij
    have HC:=Lib.hid (fun(W:World) (hW:Upd No w5 W)=>Zgn W base B d inn[j] ⟨ak,al,(i:Int)⟩ (Ze inn[j] ⟨ak,al,(i:Int)⟩) (Zb hiw6 hW (fun _ _=>id)) hp2 (by omega) (Nat.le_trans hbase (Nat.le_trans n3.size (Nat.le_trans hzb hW.size))))
    have hlo:j<ih.length:=(List.getElem?_eq_some_iff.1 hij).1
    have OB:=Lib.hid (And.intro HG6.ib_ (t5 ib hlow.2.2))
    have k1:(0:Int)≤(j:Int):=Int.natCast_nonneg _
    have k2:(j:Int)<(out.length:Int):=by omega
    unfold DEnd.cells at HC
    have S6:=Lib.hid (And.intro HG6 (And.intro HS6 (And.intro hiwn hij)))
    clear hg n3 b4 n2 t2 t4 hz3 hown hiwn hp1 hp2 hoi hij HS6 HG6 hiw6 hHeld hq hgb hlenO
    clear hvl hlow hne t0 t1 t2 t3 t4 t5 t6 hzb
    refine wp_region_noPanic ?_
    refine wp_region_held_drew (S:=(fun w'=>Upd (Zk (.slice B inn[j].length d) ib) w5 w')) (by kernel_rfl) ?_ (fun hHeld=> ?_)
    ·(first|exact(Upd.refl _ _).drew|exact hHeld.trans hq)
    refine wpK 0 rfl ?_
    refine wpK 1 rfl ?_
    refine wpK 2 rfl ?_
    refine wpK 3 rfl ?_
    refine wpK 4 rfl ?_
    refine wpK 5 rfl ?_
    refine wpK 6 rfl ?_
    refine wpK 7 rfl ?_
    refine wpK 8 rfl ?_
    refine wpK 9 rfl ?_
    refine wpK 10 rfl ?_
    refine wpK 11 rfl ?_
    refine wpK 12 rfl ?_
    refine wpK 14 rfl ?_
    refine wpR [13] ?_
    refine wpC rfl (fun K hK=> ?_) AllReadyH.nil
    go_simp
    refine hK.out _ _ ?_ (fun hHeld=> ?_)
    ·(first|exact(Upd.refl _ _).drew|exact hHeld.trans hq)
    clear hK K
    try simp only[Act.put,sT,sS,sZ]
    refine wpR [15] ?_
    refine wpC rfl (fun K hK=> ?_) AllReadyH.nil
    go_simp
    (first
  |(go_at_call 39;refine(HC.out _ (Upd.refl No _).drew).mono ?_;rintro e w6 ⟨A6,c6,rfl,ho4,hu4,hg4⟩;have hq:=hu4.mono (T:=Zk (.slice B inn[j].length d) ib) (fun _ _ e=>Or.inl e);have H6:=Lib.hid (And.intro ho4 (And.intro hu4 hg4));clear ho4 hu4 hg4))
    try (go_wp2_with fail)
    refine hK.out _ _ ?_ (fun hHeld=> ?_)
    ·(first|exact(Upd.refl _ _).drew|exact hHeld.trans hq)
    clear hK K
    try simp only[Act.put,sT,sS,sZ]
    refine wpK 16 rfl ?_
    refine wpR [17] ?_
    refine wpC rfl (fun K hK=> ?_) AllReadyH.nil
    (first
  |(refine ZbR rfl rfl (g:=ib) (i:=j) (t:=66) (old:=ih) rfl rfl (H6.out.2.1.blk OB.out.1 OB.out.2) (by kernel_rfl) hlo ?_;intro w7 hb5 hu5;have hq:=hu5.mono (T:=Zk (.slice B inn[j].length d) ib) (fun _ _ e=>Or.inr e);have H7:=Lib.hid (And.intro hb5 hu5);clear hb5 hu5))
    refine hK.out _ _ ?_ (fun hHeld=> ?_)
    ·(first|exact(Upd.refl _ _).drew|exact hHeld.trans hq)
    clear hK K
    try simp only[Act.put,sT,sS,sZ]
    refine wpD (NoPanic.normal ?_)
    all_goals
     obtain⟨HG6,HS6,hiwn,hij⟩:=S6.out
     obtain⟨hg,n3,b4,n2,t2,t4,hz3⟩:=ST.out
     obtain⟨hown,hiwn',hp1,hp2,hoi,hij'⟩:=HP.out
     have HG7:=HG6.rowI hjn hij hHeld H7.out.1 (Zb H6.out.1 H7.out.2 (fun k hk e=>by have:=(H6.out.1.lt k hk).1;have:=HG6.low;unfold One at e;omega)) H6.out.2.2 (Nat.le_trans (Nat.le_of_eq (Zah inn[j] (Ze inn[j] ⟨ak,al,(i:Int)⟩) ⟨ak,al,(i:Int)⟩ hp2.1)) (by omega))
     have hin:=hg.inG
     have HU:=Lib.hid (ZeY n3 HS6 hHeld (fun k e=>hin.2.2.2 _ (List.mem_append_left _ (List.mem_of_getElem? hoi)) k e) (fun k e=>hin.2.2.2 _ (List.mem_append_right _ (List.mem_of_getElem? hij)) k e) ⟨hin.2.1,hin.2.2.1⟩)
     have HGg:=Lib.hid hin.1
     have HR:=Lib.hid (HG7.setN ((n:Int)+1))
     have c9:=HG7.blk.cell 2
     simp only[List.getElem?_cons_zero,List.getElem?_cons_succ]at c9
     have f9:=HG7.blk.free 2
     have hw:IntKind.i64.wrap ((n:Int)+1)=(n:Int)+1:=IntWalk.i64_in _ (by omega)
     clear HG6 HS6 hiwn hij hg n3 b4 n2 t2 t4 hz3 hown hiwn' hp1 hp2 hoi hij' HG7 hin hHeld g0 a0 e0 e1 e2 oi hq
     go_wp2
     go_ret
     rw[HX.out.1,HX.out.2.1,HX.out.2.2,HW.out,Zcj _ _ _ (by simpa using hi),Zcj _ _ _ (by simpa using hjn)]
     refine⟨_,_,_,rfl,HR.out,(HU.out.1.then_ (Upd.setOne (Upd.refl (One g) _) 2 _) (fun k e=> .inl (by unfold One at e;exact e▸HGg.out))),HU.out.2⟩
 ·have hR':Zd out.length a=false:=by simpa using hR
  rw[hR']at hn
  have HW:=Lib.hid (show ZaF out a=1 by unfold ZaF;rw[if_neg hR])
  have HX:=Lib.hid (show Zbq out a=out∧Zbs out inn a=inn∧Zbr out n a=n by unfold Zbq Zbs Zbr;rw[HW.out];exact⟨rfl,rfl,rfl⟩)
  clear hR hR' h hr hri hsz u0 bA HA HZ
  obtain⟨af,at',ak,al⟩:=a
  unfold HArc.cells at*
  go_enter Try.func21,Try.ntmps21
  go_wp2_with fail
  refine(hn.out).mono ?_
  rintro e w1 ⟨rfl,hu1⟩
  have hu:=Lib.hid (U0.out.trans hu1)
  clear hu1 hn
  go_wp2
  go_ret
  rw[HX.out.1,HX.out.2.1,HX.out.2.2,HW.out]
  exact HH.out.same hu.out _
end
end Go.Proofs.Ytfcefnpnomlgbaa
/- Digraphs:an arc dropped. -/
namespace Go.Proofs.Ytfcefnpnomlgbaa
set_option linter.unusedSimpArgs false
set_option linter.unusedVariables false
open Go.RowKit
def Zc0 (out:List (List DEnd)) (a:HArc):Int:=if ZaU out a=true then 0 else 3
def ZaY (l:List DEnd) (e:DEnd):List DEnd:=Zc1 l (Ze l e)
def ZfD (out:List (List DEnd)) (a:HArc):List (List DEnd):=if Zc0 out a=0 then out.modify a.f.toNat (ZaY · (Zx a)) else out
def ZfE (out inn:List (List DEnd)) (a:HArc):List (List DEnd):=if Zc0 out a=0 then inn.modify a.t.toNat (ZaY · (inE a)) else inn
theorem ZfU {l:List DEnd} (h:ZE l) {e:DEnd} (m:e∈l):Ze l e<l.length:=by
 have h1:=ZbZ h e
 rw[decide_eq_true m]at h1
 unfold Zbn at h1
 split at h1
 ·next x hx=>exact(List.getElem?_eq_some_iff.1 hx).1
 ·cases h1
section
variable {w:World} {G:Nat→Prop} {g:Nat} {out inn:List (List DEnd)} {n:Nat} {ob ib:Nat} {oh ih:List Value} {base:Nat}
end
end Go.Proofs.Ytfcefnpnomlgbaa
