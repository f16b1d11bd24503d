/- Looking at a history: reads that may not be. -/
import Derived.Test.YtonblekdfinpkaaGreatWrbf
import Derived.Test.YtonblekdfinpkaaGreatWrbi
namespace Go.Proofs.YtonblekdfinpkaaGreat
set_option linter.unusedVariables false
set_option linter.unusedSimpArgs false
section
open Go.RowKit
def Zcn (txs:List HTx) (i:Int):Bool:=match Zp txs i with|some u=>u.done|none=>false
def Zce (txs:List HTx) (i:Int):List HOp:=match Zp txs i with|some u=>u.ops|none=>[]
theorem Zto (F:Nat→Prop) (w:World) (txs:List HTx) (ords:List HOrd) (A:Option Addr) (c:Nat) (B:Option Addr) (d:Nat) (i:Int) (H:Hist.lies F w ⟨txs,ords,A,c,B,d⟩):
  Calls Tryz.prog 74 #[.agg #[.slice A txs.length c,.slice B ords.length d],.int .i64 i] w fun e w'=>
  ∃(x:Int) (A':Option Addr) (c':Nat) (b:Bool),e= .returned (.tuple #[.agg #[.int .i64 x,.bool (Zcn txs i),.slice A' (Zce txs i).length c'],.bool b])∧Zq (Zce txs i).length∧HOps (fun i=>w.heap.size≤i) w' A' (Zce txs i)∧Upd No w w':=by
 unfold Zcn Zce
 cases hf:Zp txs i with
 |none=>
  refine(Zd2 F w txs ords A c B d i H hf).mono ?_;rintro e w' ⟨rfl,hu⟩;exact⟨0,none,0,false,rfl,by unfold Zq;simp,fun h=>absurd rfl h,hu⟩
 |some t=>
  refine(Zct F w txs ords A c B d i H hf).mono ?_;rintro e w' ⟨A',c',rfl,h1,h2,h3⟩;exact⟨_,A',c',true,rfl,(H.tx t (Zc7 hf)).2.2.1,h2,h3⟩
section
variable {txs:List HTx} {p:Int} {b:HBad}
theorem Zrl (h:Zk txs b.tx=none):ZaK txs p b=false:=by unfold ZaK;rw[h]
theorem ZsW {t:HTx} (h:Zk txs b.tx=some t) (hp:b.place<0):ZaK txs p b=false:=by unfold ZaK;rw[h];simp[hp]
theorem Zrk {t:HTx} (h:Zk txs b.tx=some t) (hp:(t.ops.length:Int)≤b.place):ZaK txs p b=false:=by
 unfold ZaK;rw[h];have h1:¬b.place<0:=by omega
 have h2:t.ops[b.place.toNat]? =none:=List.getElem?_eq_none (by omega);simp only[if_neg h1,h2]
theorem ZtX {t:HTx} {o:HOp} {k:Nat} (h:Zk txs b.tx=some t) (hp:b.place=k) (ho:t.ops[k]? =some o):ZaK txs p b=(if !o.read|| !(Zw o==b.of)||o.tx==0||o.tx==t.id then false
  else if p=2 then !(Zcn txs o.tx) else if p=3 then decide (o.nth<(Z1 (Zce txs o.tx) o.key:Int)) else false):=by
 unfold ZaK;rw[h];have h1:¬b.place<0:=by omega
 have h2:b.place.toNat=k:=by omega
 simp only[if_neg h1,h2,ho];unfold Zcn Zce
 cases Zp txs o.tx<;>rfl
end
theorem Zk8 (w:World) (k t n:Int):Calls Tryz.prog 134 #[.agg #[.bool true,.int .i64 k,.int .i64 t,.int .i64 n]] w fun e w'=>e= .returned (.agg #[.int .i64 t,.int .i64 k,.int .i64 n])∧Upd No w w':=oof w ⟨true,k,t,n⟩
set_option maxRecDepth 100000 in
set_option maxHeartbeats 8000000 in
theorem Zvx (F:Nat→Prop) (w:World) (txs:List HTx) (ords:List HOrd) (A:Option Addr) (c:Nat) (B:Option Addr) (d:Nat) (p:Int) (b:HBad) (H:Hist.lies F w ⟨txs,ords,A,c,B,d⟩):
  Calls Tryz.prog 66 #[.agg #[.slice A txs.length c,.slice B ords.length d],.int .i64 p,.agg b.cells.toArray] w fun r w'=>r= .returned (.bool (ZaK txs p b))∧Upd No w w':=by
 obtain⟨bx,bp,⟨vt,vk,vn⟩⟩:=b;unfold HBad.cells;have u0:=((Upd.refl No w).alloc (.cells #[.slice A txs.length c,.slice B ords.length d] 117)).alloc (.cells #[.int .i64 bx,.int .i64 bp,.int .i64 vt,.int .i64 vk,.int .i64 vn] 38);have bR:=Qh ((Blk.new w 117 [.slice A txs.length c,.slice B ords.length d]).alloc (.cells #[.int .i64 bx,.int .i64 bp,.int .i64 vt,.int .i64 vk,.int .i64 vn] 38));have b1:=Blk.new (w.alloc (.cells #[.slice A txs.length c,.slice B ords.length d] 117)) 38 [.int .i64 bx,.int .i64 bp,.int .i64 vt,.int .i64 vk,.int .i64 vn];simp only[World.size_alloc]at b1;have bM:=Qh b1;have ha:=Qh (Zn1 F _ txs ords A c B d bx (H.upd u0 (fun _ _=>id)));have qN:=Zr8;unfold Zc8 at qN;have HQ:=Qh qN;clear b1 qN
 go_enter Tryz.func66,Tryz.ntmps66
 go_wp2_with fail
 refine(ha.out).mono ?_;rintro e w1 ⟨x1,q1,dn1,A1,l1,c1,rfl,hc1,hfew1,hh1,hm1,hu1⟩;have uT1:=hu1.alloc (.cells #[.int .i64 x1,.bool dn1,.slice A1 l1.length c1] 85);have bR1:=Qh (bR.out.upd uT1 id);have bM1:=Qh (bM.out.upd uT1 id);have bT1:=Qh (Blk.new w1 85 [.int .i64 x1,.bool dn1,.slice A1 l1.length c1]);have hh1':=Qh (HOps.upd hh1 ((Upd.refl No w1).alloc (.cells #[.int .i64 x1,.bool dn1,.slice A1 l1.length c1] 85)) (fun _ _=>id));have U1:=Qh (u0.trans uT1);have M1:=Qh hm1;unfold Zq at hfew1;have m1:=bM1.out.cell 1;have m2:=bM1.out.cell 2;have m3:=bM1.out.cell 3;have m4:=bM1.out.cell 4;have r0:=bR1.out.cell 0;have r1:=bR1.out.cell 1;have t0:=bT1.out.cell 0;have t2:=bT1.out.cell 2;simp only[Qz,Qs]at m1 m2 m3 m4 r0 r1 t0 t2;clear u0 hu1 uT1 hh1 hm1
 cases hd1:Zk txs bx with
 |none=>
  have hv:=Qh (show ZaK txs p ⟨bx,bp,⟨vt,vk,vn⟩⟩=false from Zrl hd1);have hm1:=M1.out;rw[hd1]at hm1;subst hm1;clear hd1;go_wp2
  go_ret
  exact⟨by rw[hv.out];rfl,U1.out⟩
 |some t=>
  have hm1:=M1.out;rw[hd1]at hm1;obtain⟨rfl,rfl,rfl⟩:=hm1;have HD1:=Qh hd1;clear hd1 M1
  by_cases hp0:bp<0
  ·have hv:=Qh (show ZaK txs p ⟨bx,bp,⟨vt,vk,vn⟩⟩=false from ZsW HD1.out hp0);go_wp2
   go_ret
   exact⟨by rw[hv.out];rfl,U1.out⟩
  ·by_cases hpl:(t.ops.length:Int)≤bp
   ·have hv:=Qh (show ZaK txs p ⟨bx,bp,⟨vt,vk,vn⟩⟩=false from Zrk HD1.out hpl);go_wp2
    go_ret
    exact⟨by rw[hv.out];rfl,U1.out⟩
   ·obtain⟨k,rfl⟩:∃k:Nat,bp=k:=⟨bp.toNat,by omega⟩;have hlt:k<t.ops.length:=by omega
    have hb2:(k:Int)<(t.ops.length:Int):=by omega
    have hb1:(0:Int)≤(k:Int):=Qn _;have hb3:decide ((t.ops.length:Int)≤(k:Int))=false:=decide_eq_false hpl;have hb4:decide (t.ops.length≤k)=false:=decide_eq_false (by omega);obtain⟨ad,hAd,y0,y1,y2,y3⟩:=hh1'.out.at_ hlt;obtain⟨o,ho⟩:∃o,t.ops[k]=o:=⟨_,rfl⟩;rw[ho]at y0 y1 y2 y3;subst hAd;have hv0:=ZtX (txs:=txs) (p:=p) (b:=⟨bx,(k:Int),⟨vt,vk,vn⟩⟩) (k:=k) (o:=o) HD1.out rfl (by rw[Qg hlt,ho])
    cases hr:o.read
    ·have hv:=Qh (show ZaK txs p ⟨bx,(k:Int),⟨vt,vk,vn⟩⟩=false by rw[hv0,hr];rfl);rw[hr]at y0;clear hv0 hr ho;have bO:=Qh (Blk.new (w1.alloc (.cells #[.int .i64 t.id,.bool dn1,.slice (some ad) t.ops.length c1] 85)) 82 [.bool false,.int .i64 o.key,.int .i64 o.tx,.int .i64 o.nth]);have uO:=(Upd.refl No (w1.alloc (.cells #[.int .i64 t.id,.bool dn1,.slice (some ad) t.ops.length c1] 85))).alloc (.cells #[.bool false,.int .i64 o.key,.int .i64 o.tx,.int .i64 o.nth] 82);have bR3:=Qh (bR1.out.upd uO id);have bM3:=bM1.out.upd uO id;have bT3:=bT1.out.upd uO id;have U3:=Qh (U1.out.trans uO);have o0:=bO.out.cell 0;have o1:=bO.out.cell 1;have o2:=bO.out.cell 2;have o3:=bO.out.cell 3;have n2:=bM3.cell 2;have n3:=bM3.cell 3;have n4:=bM3.cell 4;have s0:=bT3.cell 0;simp only[Qz,Qs,World.size_alloc]at o0 o1 o2 o3 n2 n3 n4 s0;clear uO bM3 bT3;go_wp2;clear t0 m2 m3 m4;have t0:=s0;have m2:=n2;have m3:=n3;have m4:=n4;refine wp_region_noPanic ?_;refine wp_region_held_drew (S:=(fun w'=>Upd No ((w1.alloc (.cells #[.int .i64 t.id,.bool dn1,.slice (some ad) t.ops.length c1] 85)).alloc (.cells #[.bool false,.int .i64 o.key,.int .i64 o.tx,.int .i64 o.nth] 82)) w'∧w'.cell? ⟨w1.heap.size+1,0,none⟩=some (.bool false)∧w'.cell? ⟨w1.heap.size+1,1,none⟩=some (.int .i64 o.key)∧w'.cell? ⟨w1.heap.size+1,2,none⟩=some (.int .i64 o.tx)∧w'.cell? ⟨w1.heap.size+1,3,none⟩=some (.int .i64 o.nth)∧w'.cell? ⟨w1.heap.size,0,none⟩=some (.int .i64 t.id)∧w'.cell? ⟨w.heap.size+1,2,none⟩=some (.int .i64 vt)∧w'.cell? ⟨w.heap.size+1,3,none⟩=some (.int .i64 vk)∧w'.cell? ⟨w.heap.size+1,4,none⟩=some (.int .i64 vn))) (by kernel_rfl) ?_ (fun hHeld=> ?_)
     ·(first|exact⟨(Upd.refl No _).drew,o0,o1,o2,o3,t0,m2,m3,m4⟩|exact⟨hHeld.1.trans hu3,hu3.keepNo hHeld.2.1,hu3.keepNo hHeld.2.2.1,hu3.keepNo hHeld.2.2.2.1,hu3.keepNo hHeld.2.2.2.2.1,hu3.keepNo hHeld.2.2.2.2.2.1,hu3.keepNo hHeld.2.2.2.2.2.2.1,hu3.keepNo hHeld.2.2.2.2.2.2.2.1,hu3.keepNo hHeld.2.2.2.2.2.2.2.2⟩)
     refine wpK 0 rfl ?_;refine wpK 1 rfl ?_;refine wpK 2 rfl ?_;refine wpK 3 rfl ?_;refine wpN 4 rfl ?_;refine wpN 6 rfl ?_;refine wpN 7 rfl ?_;refine wpR [5] ?_;refine wpC rfl (fun K hK=> ?_) AllReadyH.nil;go_simp;refine hK.out _ _ ?_ (fun hHeld=> ?_)
     ·exact hHeld
     clear hK K
     try simp only[Act.put,sT,sS,sZ]
     refine wpN 8 rfl ?_;refine wpK 9 rfl ?_;refine wpK 10 rfl ?_;refine wpN 11 rfl ?_;refine wpN 12 rfl ?_;refine wpN 13 rfl ?_;refine wpK 14 rfl ?_;refine wpK 15 rfl ?_;refine wpN 16 rfl ?_;refine wpN 17 rfl ?_;refine wpN 18 rfl ?_;refine wpN 19 rfl ?_;refine wpN 20 rfl ?_;refine wpK 21 rfl ?_;refine wpD (NoPanic.normal ?_);have HU:=Qh hHeld.1;clear hHeld;go_wp2
     go_ret
     exact⟨by rw[hv.out];rfl,U3.out.trans HU.out⟩
    ·rw[hr]at y0;have hvo:Zw o=⟨o.tx,o.key,o.nth⟩:=by unfold Zw;rw[hr];rfl
     rw[hr,hvo]at hv0;have qn:=fun w=>HQ.out w ⟨o.tx,o.key,o.nth⟩ ⟨vt,vk,vn⟩
     clear hr ho hvo
     cases hne:((⟨o.tx,o.key,o.nth⟩:Ver)==⟨vt,vk,vn⟩)
     ·have hneb:((⟨o.tx,o.key,o.nth⟩:Ver) != ⟨vt,vk,vn⟩)=true:=by unfold bne;rw[hne];rfl
      have hv:=Qh (show ZaK txs p ⟨bx,(k:Int),⟨vt,vk,vn⟩⟩=false by rw[hv0];simp[hne]);have qn2:=fun w=>(qn w).trans (by rw[hneb])
      clear hv0 hneb hne qn;have bO:=Qh (Blk.new (w1.alloc (.cells #[.int .i64 t.id,.bool dn1,.slice (some ad) t.ops.length c1] 85)) 82 [.bool true,.int .i64 o.key,.int .i64 o.tx,.int .i64 o.nth]);have uO:=(Upd.refl No (w1.alloc (.cells #[.int .i64 t.id,.bool dn1,.slice (some ad) t.ops.length c1] 85))).alloc (.cells #[.bool true,.int .i64 o.key,.int .i64 o.tx,.int .i64 o.nth] 82);have bR3:=Qh (bR1.out.upd uO id);have bM3:=bM1.out.upd uO id;have bT3:=bT1.out.upd uO id;have U3:=Qh (U1.out.trans uO);have o0:=bO.out.cell 0;have o1:=bO.out.cell 1;have o2:=bO.out.cell 2;have o3:=bO.out.cell 3;have n2:=bM3.cell 2;have n3:=bM3.cell 3;have n4:=bM3.cell 4;have s0:=bT3.cell 0;simp only[Qz,Qs,World.size_alloc]at o0 o1 o2 o3 n2 n3 n4 s0;clear uO bM3 bT3;go_wp2;clear t0 m2 m3 m4;have t0:=s0;have m2:=n2;have m3:=n3;have m4:=n4;refine wp_region_noPanic ?_;refine wp_region_held_drew (S:=(fun w'=>Upd No ((w1.alloc (.cells #[.int .i64 t.id,.bool dn1,.slice (some ad) t.ops.length c1] 85)).alloc (.cells #[.bool true,.int .i64 o.key,.int .i64 o.tx,.int .i64 o.nth] 82)) w'∧w'.cell? ⟨w1.heap.size+1,0,none⟩=some (.bool true)∧w'.cell? ⟨w1.heap.size+1,1,none⟩=some (.int .i64 o.key)∧w'.cell? ⟨w1.heap.size+1,2,none⟩=some (.int .i64 o.tx)∧w'.cell? ⟨w1.heap.size+1,3,none⟩=some (.int .i64 o.nth)∧w'.cell? ⟨w1.heap.size,0,none⟩=some (.int .i64 t.id)∧w'.cell? ⟨w.heap.size+1,2,none⟩=some (.int .i64 vt)∧w'.cell? ⟨w.heap.size+1,3,none⟩=some (.int .i64 vk)∧w'.cell? ⟨w.heap.size+1,4,none⟩=some (.int .i64 vn))) (by kernel_rfl) ?_ (fun hHeld=> ?_)
      ·(first|exact⟨(Upd.refl No _).drew,o0,o1,o2,o3,t0,m2,m3,m4⟩|exact⟨hHeld.1.trans hu3,hu3.keepNo hHeld.2.1,hu3.keepNo hHeld.2.2.1,hu3.keepNo hHeld.2.2.2.1,hu3.keepNo hHeld.2.2.2.2.1,hu3.keepNo hHeld.2.2.2.2.2.1,hu3.keepNo hHeld.2.2.2.2.2.2.1,hu3.keepNo hHeld.2.2.2.2.2.2.2.1,hu3.keepNo hHeld.2.2.2.2.2.2.2.2⟩)
      refine wpK 0 rfl ?_;refine wpK 1 rfl ?_;refine wpK 2 rfl ?_;refine wpK 3 rfl ?_;refine wpK 4 rfl ?_;refine wpK 6 rfl ?_;refine wpK 7 rfl ?_;refine wpR [5] ?_;refine wpC rfl (fun K hK=> ?_) AllReadyH.nil;go_simp
      (first
  |(go_at_call 134;refine(Zk8 _ o.key o.tx o.nth).mono ?_;rintro e w3 ⟨rfl,hu3⟩))
      try (go_wp2_with fail)
      refine hK.out _ _ ?_ (fun hHeld=> ?_)
      ·(first|exact⟨(Upd.refl No _).drew,o0,o1,o2,o3,t0,m2,m3,m4⟩|exact⟨hHeld.1.trans hu3,hu3.keepNo hHeld.2.1,hu3.keepNo hHeld.2.2.1,hu3.keepNo hHeld.2.2.2.1,hu3.keepNo hHeld.2.2.2.2.1,hu3.keepNo hHeld.2.2.2.2.2.1,hu3.keepNo hHeld.2.2.2.2.2.2.1,hu3.keepNo hHeld.2.2.2.2.2.2.2.1,hu3.keepNo hHeld.2.2.2.2.2.2.2.2⟩)
      clear hK K
      try simp only[Act.put,sT,sS,sZ]
      refine wpK 8 rfl ?_;refine wpK 9 rfl ?_;refine wpK 10 rfl ?_;refine wpN 11 rfl ?_;refine wpN 12 rfl ?_;refine wpN 13 rfl ?_;refine wpK 14 rfl ?_;refine wpK 15 rfl ?_;refine wpN 16 rfl ?_;refine wpN 17 rfl ?_;refine wpN 18 rfl ?_;refine wpN 19 rfl ?_;refine wpN 20 rfl ?_;refine wpK 21 rfl ?_;refine wpD (NoPanic.normal ?_);have HU:=Qh hHeld.1;clear hHeld;go_wp2
      go_ret
      exact⟨by rw[hv.out];rfl,U3.out.trans HU.out⟩
     ·have hneb:((⟨o.tx,o.key,o.nth⟩:Ver) != ⟨vt,vk,vn⟩)=false:=by unfold bne;rw[hne];rfl
      have qn2:=fun w=>(qn w).trans (by rw[hneb])
      rw[show((⟨o.tx,o.key,o.nth⟩:Ver)==(HBad.mk bx (k:Int) ⟨vt,vk,vn⟩).of)=true from hne]at hv0;clear hneb hne qn
      cases h0:o.tx==0
      ·cases hti:o.tx==t.id
       ·rw[h0,hti]at hv0;simp only[Bool.not_true,Bool.or_self,Bool.or_false,if_false,Bool.false_eq_true]at hv0;have HV:=Qh hv0;clear hv0;have bO:=Qh (Blk.new (w1.alloc (.cells #[.int .i64 t.id,.bool dn1,.slice (some ad) t.ops.length c1] 85)) 82 [.bool true,.int .i64 o.key,.int .i64 o.tx,.int .i64 o.nth]);have uO:=(Upd.refl No (w1.alloc (.cells #[.int .i64 t.id,.bool dn1,.slice (some ad) t.ops.length c1] 85))).alloc (.cells #[.bool true,.int .i64 o.key,.int .i64 o.tx,.int .i64 o.nth] 82);have bR3:=Qh (bR1.out.upd uO id);have bM3:=bM1.out.upd uO id;have bT3:=bT1.out.upd uO id;have U3:=Qh (U1.out.trans uO);have o0:=bO.out.cell 0;have o1:=bO.out.cell 1;have o2:=bO.out.cell 2;have o3:=bO.out.cell 3;have n2:=bM3.cell 2;have n3:=bM3.cell 3;have n4:=bM3.cell 4;have s0:=bT3.cell 0;simp only[Qz,Qs,World.size_alloc]at o0 o1 o2 o3 n2 n3 n4 s0;clear uO bM3 bT3;go_wp2;clear t0 m2 m3 m4;have t0:=s0;have m2:=n2;have m3:=n3;have m4:=n4;refine wp_region_noPanic ?_;refine wp_region_held_drew (S:=(fun w'=>Upd No ((w1.alloc (.cells #[.int .i64 t.id,.bool dn1,.slice (some ad) t.ops.length c1] 85)).alloc (.cells #[.bool true,.int .i64 o.key,.int .i64 o.tx,.int .i64 o.nth] 82)) w'∧w'.cell? ⟨w1.heap.size+1,0,none⟩=some (.bool true)∧w'.cell? ⟨w1.heap.size+1,1,none⟩=some (.int .i64 o.key)∧w'.cell? ⟨w1.heap.size+1,2,none⟩=some (.int .i64 o.tx)∧w'.cell? ⟨w1.heap.size+1,3,none⟩=some (.int .i64 o.nth)∧w'.cell? ⟨w1.heap.size,0,none⟩=some (.int .i64 t.id)∧w'.cell? ⟨w.heap.size+1,2,none⟩=some (.int .i64 vt)∧w'.cell? ⟨w.heap.size+1,3,none⟩=some (.int .i64 vk)∧w'.cell? ⟨w.heap.size+1,4,none⟩=some (.int .i64 vn))) (by kernel_rfl) ?_ (fun hHeld=> ?_)
        ·(first|exact⟨(Upd.refl No _).drew,o0,o1,o2,o3,t0,m2,m3,m4⟩|exact⟨hHeld.1.trans hu3,hu3.keepNo hHeld.2.1,hu3.keepNo hHeld.2.2.1,hu3.keepNo hHeld.2.2.2.1,hu3.keepNo hHeld.2.2.2.2.1,hu3.keepNo hHeld.2.2.2.2.2.1,hu3.keepNo hHeld.2.2.2.2.2.2.1,hu3.keepNo hHeld.2.2.2.2.2.2.2.1,hu3.keepNo hHeld.2.2.2.2.2.2.2.2⟩)
        refine wpK 0 rfl ?_;refine wpK 1 rfl ?_;refine wpK 2 rfl ?_;refine wpK 3 rfl ?_;refine wpK 4 rfl ?_;refine wpK 6 rfl ?_;refine wpK 7 rfl ?_;refine wpR [5] ?_;refine wpC rfl (fun K hK=> ?_) AllReadyH.nil;go_simp
        (first
  |(go_at_call 134;refine(Zk8 _ o.key o.tx o.nth).mono ?_;rintro e w3 ⟨rfl,hu3⟩))
        try (go_wp2_with fail)
        refine hK.out _ _ ?_ (fun hHeld=> ?_)
        ·(first|exact⟨(Upd.refl No _).drew,o0,o1,o2,o3,t0,m2,m3,m4⟩|exact⟨hHeld.1.trans hu3,hu3.keepNo hHeld.2.1,hu3.keepNo hHeld.2.2.1,hu3.keepNo hHeld.2.2.2.1,hu3.keepNo hHeld.2.2.2.2.1,hu3.keepNo hHeld.2.2.2.2.2.1,hu3.keepNo hHeld.2.2.2.2.2.2.1,hu3.keepNo hHeld.2.2.2.2.2.2.2.1,hu3.keepNo hHeld.2.2.2.2.2.2.2.2⟩)
        clear hK K
        try simp only[Act.put,sT,sS,sZ]
        refine wpK 8 rfl ?_;refine wpK 9 rfl ?_;refine wpK 10 rfl ?_;refine wpK 11 rfl ?_;refine wpK 12 rfl ?_;refine wpK 13 rfl ?_;refine wpK 14 rfl ?_;refine wpK 15 rfl ?_;refine wpK 16 rfl ?_;refine wpK 17 rfl ?_;refine wpK 18 rfl ?_;refine wpK 19 rfl ?_;refine wpK 20 rfl ?_;refine wpK 21 rfl ?_;refine wpD (NoPanic.normal ?_);have HU:=Qh hHeld.1;clear hHeld;have bO3:=Qh (bO.out.upd HU.out id);have bR4:=bR3.out.upd HU.out id;clear o0 o1 o2 o3 n2 n3 n4 s0 t0 m2 m3 m4 r0 r1 t2 m1 qn2;have o2:=bO3.out.cell 2;have r0:=bR4.cell 0;have r1:=bR4.cell 1;simp only[Qz,Qs,World.size_alloc]at o2 r0 r1;have HF:=Qh (Zto F _ txs ords A c B d o.tx (H.upd (U3.out.trans HU.out) (fun _ _=>id)));clear bR4
        go_wp2_with fail
        refine(HF.out).mono ?_;rintro e w4 ⟨x4,A4,c4,b4,rfl,hfew4,hh4,hu4⟩;obtain⟨ud,hud⟩:∃ud,Zcn txs o.tx=ud:=⟨_,rfl⟩;obtain⟨ul,hul⟩:∃ul,Zce txs o.tx=ul:=⟨_,rfl⟩;rw[hul]at hfew4 hh4;rw[hud,hul];have hv1:=HV.out;rw[hud,hul]at hv1;have bU:=Blk.new w4 85 [.int .i64 x4,.bool ud,.slice A4 ul.length c4];have uU:=hu4.alloc (.cells #[.int .i64 x4,.bool ud,.slice A4 ul.length c4] 85);have hh5:=Qh (HOps.upd hh4 ((Upd.refl No w4).alloc (.cells #[.int .i64 x4,.bool ud,.slice A4 ul.length c4] 85)).drew (fun _ _=>id));have bO4:=bO3.out.upd uU id;have U5:=Qh ((U3.out.trans HU.out).trans uU);have Hfew:=Qh hfew4;clear o2 r0 r1;have o1:=bO4.cell 1;have o3:=bO4.cell 3;have k0:=bU.cell 0;have k1:=bU.cell 1;have k2:=bU.cell 2;simp only[Qz,Qs,World.size_alloc]at o1 o3 k0 k1 k2;clear hud hul hh4 hfew4 bU uU bO4 hu4
        by_cases hp2:p=2
        ·rw[if_pos hp2]at hv1;have hv:=Qh hv1;have hpb:(p==2)=true:=by simpa using hp2
         clear hp2 hv1;go_wp2
         go_ret
         exact⟨by rw[hv.out];rfl,U5.out⟩
        ·rw[if_neg hp2]at hv1;have hpb:(p==2)=false:=by simpa using hp2
         clear hp2
         by_cases hp3:p=3
         ·rw[if_pos hp3]at hv1;have hv:=Qh hv1;have hpb3:(p==3)=true:=by simpa using hp3
          clear hp3 hv1;go_wp2;refine wp_region_noPanic ?_;refine wp_region_held_drew (S:=(fun w'=>Upd No w w'∧w'.cell? ⟨w1.heap.size+1,1,none⟩=some (.int .i64 o.key)∧w'.cell? ⟨w1.heap.size+1,3,none⟩=some (.int .i64 o.nth)∧w'.cell? ⟨w4.heap.size,0,none⟩=some (.int .i64 x4)∧w'.cell? ⟨w4.heap.size,1,none⟩=some (.bool ud)∧w'.cell? ⟨w4.heap.size,2,none⟩=some (.slice A4 ul.length c4))) (by kernel_rfl) ?_ (fun hHeld=> ?_)
          ·(first|exact⟨U5.out.drew,o1,o3,k0,k1,k2⟩|exact⟨hHeld.1.trans hu5,hu5.keepNo hHeld.2.1,hu5.keepNo hHeld.2.2.1,hu5.keepNo hHeld.2.2.2.1,hu5.keepNo hHeld.2.2.2.2.1,hu5.keepNo hHeld.2.2.2.2.2⟩)
          refine wpK 0 rfl ?_;refine wpK 1 rfl ?_;refine wpK 2 rfl ?_;refine wpK 3 rfl ?_;refine wpK 4 rfl ?_;refine wpR [5] ?_;refine wpC rfl (fun K hK=> ?_) AllReadyH.nil;go_simp
          (first
  |(go_at_call 135;refine(Ze9 _ _ x4 ud A4 c4 ul o.key hh5.out Hfew.out).mono ?_;rintro e w5 ⟨rfl,hu5⟩))
          try (go_wp2_with fail)
          refine hK.out _ _ ?_ (fun hHeld=> ?_)
          ·(first|exact⟨U5.out.drew,o1,o3,k0,k1,k2⟩|exact⟨hHeld.1.trans hu5,hu5.keepNo hHeld.2.1,hu5.keepNo hHeld.2.2.1,hu5.keepNo hHeld.2.2.2.1,hu5.keepNo hHeld.2.2.2.2.1,hu5.keepNo hHeld.2.2.2.2.2⟩)
          clear hK K
          try simp only[Act.put,sT,sS,sZ]
          refine wpK 6 rfl ?_;refine wpK 7 rfl ?_;refine wpD (NoPanic.normal ?_);have HU5:=Qh hHeld.1;clear hHeld;go_wp2
          go_ret
          exact⟨by rw[hv.out];rfl,HU5.out⟩
         ·rw[if_neg hp3]at hv1;have hv:=Qh hv1;have hpb3:(p==3)=false:=by simpa using hp3
          clear hp3 hv1;go_wp2
          go_ret
          exact⟨by rw[hv.out];rfl,U5.out⟩
       ·have hv:=Qh (show ZaK txs p ⟨bx,(k:Int),⟨vt,vk,vn⟩⟩=false by rw[hv0];simp[hti]);clear hv0;have bO:=Qh (Blk.new (w1.alloc (.cells #[.int .i64 t.id,.bool dn1,.slice (some ad) t.ops.length c1] 85)) 82 [.bool true,.int .i64 o.key,.int .i64 o.tx,.int .i64 o.nth]);have uO:=(Upd.refl No (w1.alloc (.cells #[.int .i64 t.id,.bool dn1,.slice (some ad) t.ops.length c1] 85))).alloc (.cells #[.bool true,.int .i64 o.key,.int .i64 o.tx,.int .i64 o.nth] 82);have bR3:=Qh (bR1.out.upd uO id);have bM3:=bM1.out.upd uO id;have bT3:=bT1.out.upd uO id;have U3:=Qh (U1.out.trans uO);have o0:=bO.out.cell 0;have o1:=bO.out.cell 1;have o2:=bO.out.cell 2;have o3:=bO.out.cell 3;have n2:=bM3.cell 2;have n3:=bM3.cell 3;have n4:=bM3.cell 4;have s0:=bT3.cell 0;simp only[Qz,Qs,World.size_alloc]at o0 o1 o2 o3 n2 n3 n4 s0;clear uO bM3 bT3;go_wp2;clear t0 m2 m3 m4;have t0:=s0;have m2:=n2;have m3:=n3;have m4:=n4;refine wp_region_noPanic ?_;refine wp_region_held_drew (S:=(fun w'=>Upd No ((w1.alloc (.cells #[.int .i64 t.id,.bool dn1,.slice (some ad) t.ops.length c1] 85)).alloc (.cells #[.bool true,.int .i64 o.key,.int .i64 o.tx,.int .i64 o.nth] 82)) w'∧w'.cell? ⟨w1.heap.size+1,0,none⟩=some (.bool true)∧w'.cell? ⟨w1.heap.size+1,1,none⟩=some (.int .i64 o.key)∧w'.cell? ⟨w1.heap.size+1,2,none⟩=some (.int .i64 o.tx)∧w'.cell? ⟨w1.heap.size+1,3,none⟩=some (.int .i64 o.nth)∧w'.cell? ⟨w1.heap.size,0,none⟩=some (.int .i64 t.id)∧w'.cell? ⟨w.heap.size+1,2,none⟩=some (.int .i64 vt)∧w'.cell? ⟨w.heap.size+1,3,none⟩=some (.int .i64 vk)∧w'.cell? ⟨w.heap.size+1,4,none⟩=some (.int .i64 vn))) (by kernel_rfl) ?_ (fun hHeld=> ?_)
        ·(first|exact⟨(Upd.refl No _).drew,o0,o1,o2,o3,t0,m2,m3,m4⟩|exact⟨hHeld.1.trans hu3,hu3.keepNo hHeld.2.1,hu3.keepNo hHeld.2.2.1,hu3.keepNo hHeld.2.2.2.1,hu3.keepNo hHeld.2.2.2.2.1,hu3.keepNo hHeld.2.2.2.2.2.1,hu3.keepNo hHeld.2.2.2.2.2.2.1,hu3.keepNo hHeld.2.2.2.2.2.2.2.1,hu3.keepNo hHeld.2.2.2.2.2.2.2.2⟩)
        refine wpK 0 rfl ?_;refine wpK 1 rfl ?_;refine wpK 2 rfl ?_;refine wpK 3 rfl ?_;refine wpK 4 rfl ?_;refine wpK 6 rfl ?_;refine wpK 7 rfl ?_;refine wpR [5] ?_;refine wpC rfl (fun K hK=> ?_) AllReadyH.nil;go_simp
        (first
  |(go_at_call 134;refine(Zk8 _ o.key o.tx o.nth).mono ?_;rintro e w3 ⟨rfl,hu3⟩))
        try (go_wp2_with fail)
        refine hK.out _ _ ?_ (fun hHeld=> ?_)
        ·(first|exact⟨(Upd.refl No _).drew,o0,o1,o2,o3,t0,m2,m3,m4⟩|exact⟨hHeld.1.trans hu3,hu3.keepNo hHeld.2.1,hu3.keepNo hHeld.2.2.1,hu3.keepNo hHeld.2.2.2.1,hu3.keepNo hHeld.2.2.2.2.1,hu3.keepNo hHeld.2.2.2.2.2.1,hu3.keepNo hHeld.2.2.2.2.2.2.1,hu3.keepNo hHeld.2.2.2.2.2.2.2.1,hu3.keepNo hHeld.2.2.2.2.2.2.2.2⟩)
        clear hK K
        try simp only[Act.put,sT,sS,sZ]
        refine wpK 8 rfl ?_;refine wpK 9 rfl ?_;refine wpK 10 rfl ?_;refine wpK 11 rfl ?_;refine wpK 12 rfl ?_;refine wpK 13 rfl ?_;refine wpK 14 rfl ?_;refine wpK 15 rfl ?_;refine wpK 16 rfl ?_;refine wpK 17 rfl ?_;refine wpK 18 rfl ?_;refine wpK 19 rfl ?_;refine wpK 20 rfl ?_;refine wpK 21 rfl ?_;refine wpD (NoPanic.normal ?_);have HU:=Qh hHeld.1;clear hHeld;go_wp2
        go_ret
        exact⟨by rw[hv.out];rfl,U3.out.trans HU.out⟩
      ·have hv:=Qh (show ZaK txs p ⟨bx,(k:Int),⟨vt,vk,vn⟩⟩=false by rw[hv0];simp[h0]);clear hv0;have bO:=Qh (Blk.new (w1.alloc (.cells #[.int .i64 t.id,.bool dn1,.slice (some ad) t.ops.length c1] 85)) 82 [.bool true,.int .i64 o.key,.int .i64 o.tx,.int .i64 o.nth]);have uO:=(Upd.refl No (w1.alloc (.cells #[.int .i64 t.id,.bool dn1,.slice (some ad) t.ops.length c1] 85))).alloc (.cells #[.bool true,.int .i64 o.key,.int .i64 o.tx,.int .i64 o.nth] 82);have bR3:=Qh (bR1.out.upd uO id);have bM3:=bM1.out.upd uO id;have bT3:=bT1.out.upd uO id;have U3:=Qh (U1.out.trans uO);have o0:=bO.out.cell 0;have o1:=bO.out.cell 1;have o2:=bO.out.cell 2;have o3:=bO.out.cell 3;have n2:=bM3.cell 2;have n3:=bM3.cell 3;have n4:=bM3.cell 4;have s0:=bT3.cell 0;simp only[Qz,Qs,World.size_alloc]at o0 o1 o2 o3 n2 n3 n4 s0;clear uO bM3 bT3;go_wp2;clear t0 m2 m3 m4;have t0:=s0;have m2:=n2;have m3:=n3;have m4:=n4;refine wp_region_noPanic ?_;refine wp_region_held_drew (S:=(fun w'=>Upd No ((w1.alloc (.cells #[.int .i64 t.id,.bool dn1,.slice (some ad) t.ops.length c1] 85)).alloc (.cells #[.bool true,.int .i64 o.key,.int .i64 o.tx,.int .i64 o.nth] 82)) w'∧w'.cell? ⟨w1.heap.size+1,0,none⟩=some (.bool true)∧w'.cell? ⟨w1.heap.size+1,1,none⟩=some (.int .i64 o.key)∧w'.cell? ⟨w1.heap.size+1,2,none⟩=some (.int .i64 o.tx)∧w'.cell? ⟨w1.heap.size+1,3,none⟩=some (.int .i64 o.nth)∧w'.cell? ⟨w1.heap.size,0,none⟩=some (.int .i64 t.id)∧w'.cell? ⟨w.heap.size+1,2,none⟩=some (.int .i64 vt)∧w'.cell? ⟨w.heap.size+1,3,none⟩=some (.int .i64 vk)∧w'.cell? ⟨w.heap.size+1,4,none⟩=some (.int .i64 vn))) (by kernel_rfl) ?_ (fun hHeld=> ?_)
       ·(first|exact⟨(Upd.refl No _).drew,o0,o1,o2,o3,t0,m2,m3,m4⟩|exact⟨hHeld.1.trans hu3,hu3.keepNo hHeld.2.1,hu3.keepNo hHeld.2.2.1,hu3.keepNo hHeld.2.2.2.1,hu3.keepNo hHeld.2.2.2.2.1,hu3.keepNo hHeld.2.2.2.2.2.1,hu3.keepNo hHeld.2.2.2.2.2.2.1,hu3.keepNo hHeld.2.2.2.2.2.2.2.1,hu3.keepNo hHeld.2.2.2.2.2.2.2.2⟩)
       refine wpK 0 rfl ?_;refine wpK 1 rfl ?_;refine wpK 2 rfl ?_;refine wpK 3 rfl ?_;refine wpK 4 rfl ?_;refine wpK 6 rfl ?_;refine wpK 7 rfl ?_;refine wpR [5] ?_;refine wpC rfl (fun K hK=> ?_) AllReadyH.nil;go_simp
       (first
  |(go_at_call 134;refine(Zk8 _ o.key o.tx o.nth).mono ?_;rintro e w3 ⟨rfl,hu3⟩))
       try (go_wp2_with fail)
       refine hK.out _ _ ?_ (fun hHeld=> ?_)
       ·(first|exact⟨(Upd.refl No _).drew,o0,o1,o2,o3,t0,m2,m3,m4⟩|exact⟨hHeld.1.trans hu3,hu3.keepNo hHeld.2.1,hu3.keepNo hHeld.2.2.1,hu3.keepNo hHeld.2.2.2.1,hu3.keepNo hHeld.2.2.2.2.1,hu3.keepNo hHeld.2.2.2.2.2.1,hu3.keepNo hHeld.2.2.2.2.2.2.1,hu3.keepNo hHeld.2.2.2.2.2.2.2.1,hu3.keepNo hHeld.2.2.2.2.2.2.2.2⟩)
       clear hK K
       try simp only[Act.put,sT,sS,sZ]
       refine wpK 8 rfl ?_;refine wpK 9 rfl ?_;refine wpK 10 rfl ?_;refine wpK 11 rfl ?_;refine wpK 12 rfl ?_;refine wpK 13 rfl ?_;refine wpK 14 rfl ?_;refine wpK 15 rfl ?_;refine wpN 16 rfl ?_;refine wpN 17 rfl ?_;refine wpN 18 rfl ?_;refine wpN 19 rfl ?_;refine wpN 20 rfl ?_;refine wpK 21 rfl ?_;refine wpD (NoPanic.normal ?_);have HU:=Qh hHeld.1;clear hHeld;go_wp2
       go_ret
       exact⟨by rw[hv.out];rfl,U3.out.trans HU.out⟩
end
/- Looking at a history:witnesses. -/
section
open Go.RowKit
def Zn3 (b:HBad):Value:= .agg #[.int .i64 b.tx,.int .i64 b.place,.int .i64 b.of.tx,.int .i64 b.of.key,.int .i64 b.of.nth]
theorem Zm9 (w:World) (n:Nat) (a b c a' b' c':Int):(Op.equalIn (n+1+1) 36 (.agg #[.int .i64 a,.int .i64 b,.int .i64 c]) (.agg #[.int .i64 a',.int .i64 b',.int .i64 c'])).run Tryz.prog w= .ok (decide ((⟨a,b,c⟩:Ver)=⟨a',b',c'⟩)) w:=by
 rw[run_equalIn_struct w _ _ _ _ (by kernel_rfl) (by kernel_rfl)];have hI:∀(w:World) (d:Nat) (x y:Int),(Op.equalIn (d+1) 3 (.int .i64 x) (.int .i64 y)).run Tryz.prog w= .ok (x==y) w:=fun w d x y=>run_equalIn_int w d _ _ _ x y Tryz.underlying3
 by_cases h1:a=a'<;>by_cases h2:b=b'<;>by_cases h3:c=c'<;>
  simp[Program.fieldsOf,Tryz.underlying36,Op.eqFields,part,hI,h1,h2,h3,Result.andThen]
theorem ZpP (w:World) (x y:HBad):(Op.equalIn 10000 38 (Zn3 x) (Zn3 y)).run Tryz.prog w= .ok (decide (x=y)) w:=by
 obtain⟨a,b,⟨c,d,e⟩⟩:=x;obtain⟨a',b',⟨c',d',e'⟩⟩:=y;unfold Zn3
 show(Op.equalIn (9997+1+1+1) _ _ _).run _ w=_
 rw[run_equalIn_struct w _ _ _ _ (by kernel_rfl) (by kernel_rfl)]
 generalize 9997=n
 have hI:∀(w:World) (d:Nat) (x y:Int),(Op.equalIn (d+1) 3 (.int .i64 x) (.int .i64 y)).run Tryz.prog w= .ok (x==y) w:=fun w d x y=>run_equalIn_int w d _ _ _ x y Tryz.underlying3
 have hV:=fun w=>Zm9 w n c d e c' d' e'
 have hp:∀(w:World) (q r c d e:Value),(part 36 #[q,r,c,d,e] 2).run Tryz.prog w= .ok (.agg #[c,d,e]) w:=fun w q r c d e=>by
  obtain⟨i,hi,_,hs,_⟩:=info_parts (P:=Tryz.prog) (e:=36) (z:= .agg #[.int .i64 0,.int .i64 0,.int .i64 0]) (size:=3) (bytes:=24) (by kernel_rfl);simp[part,isAgg,run_underlying Tryz.underlying36,sizeOf,typeInfo,hi,hs,Result.andThen]
 have hp0:∀(w:World) (q r c d e:Value),(part 3 #[q,r,c,d,e] 0).run Tryz.prog w= .ok q w:=fun w q r c d e=>by simp[part,isAgg,run_underlying Tryz.underlying3]
 have hp1:∀(w:World) (q r c d e:Value),(part 3 #[q,r,c,d,e] 1).run Tryz.prog w= .ok r w:=fun w q r c d e=>by simp[part,isAgg,run_underlying Tryz.underlying3]
 by_cases h1:a=a'<;>by_cases h2:b=b'<;>by_cases h3:(⟨c,d,e⟩:Ver)=⟨c',d',e'⟩<;>
  simp[Program.fieldsOf,Tryz.underlying38,Op.eqFields,hp,hp0,hp1,hI,hV,h1,h2,h3,Result.andThen]
theorem ZsV (w:World) (x y:HBad):(binOp .neq 38 (.agg #[.int .i64 x.tx,.int .i64 x.place,.int .i64 x.of.tx,.int .i64 x.of.key,.int .i64 x.of.nth]) (.agg #[.int .i64 y.tx,.int .i64 y.place,.int .i64 y.of.tx,.int .i64 y.of.key,.int .i64 y.of.nth])).run Tryz.prog w= .ok (.bool (x != y)) w:=by
 have:=ZpP w x y;unfold Zn3 at this;rw[run_neq_struct,this];simp only[Result.andThen]
 by_cases h:x=y<;>simp[h]
section
variable {h:Hist} {p:Int} {l:List Edge} {b:HBad}
theorem Zs1 (hr:Zb h=false):Zl h p l b=false:=by unfold Zl;rw[hr];rfl
theorem Zs2 (hr:Zb h=true) (hp:p=2∨p=3):Zl h p l b=(decide (l.length=0)&&ZaK h.txs p b):=by unfold Zl;rw[hr,if_pos hp];rfl
theorem Zrv (hr:Zb h=true) (hp:¬(p=2∨p=3)):Zl h p l b=(!(Zan p==0)&&b==Zcx&&ZaP l&&Zfe (Zck l) p&&l.all (ZN h)):=by unfold Zl;rw[hr,if_neg hp];rfl
end
theorem Zdw {F:Nat→Prop} {w:World} {txs:List HTx} {ords:List HOrd} {A:Option Addr} {c:Nat} {B:Option Addr} {d:Nat} {r:Bool} (H:Hist.lies F w ⟨txs,ords,A,c,B,d⟩) (hr:Zb ⟨txs,ords,A,c,B,d⟩=r):
  Calls Tryz.prog 41 #[.agg #[.slice A txs.length c,.slice B ords.length d]] w fun e w'=>e= .returned (.bool r)∧Upd No w w':=by subst hr;exact Zpm F w ⟨txs,ords,A,c,B,d⟩ H
theorem Zn0 {F:Nat→Prop} {w:World} {txs:List HTx} {ords:List HOrd} {A:Option Addr} {c:Nat} {B:Option Addr} {d:Nat} {p x pl vt vk vn:Int} {r:Bool} (H:Hist.lies F w ⟨txs,ords,A,c,B,d⟩) (hr:ZaK txs p ⟨x,pl,⟨vt,vk,vn⟩⟩=r):
  Calls Tryz.prog 66 #[.agg #[.slice A txs.length c,.slice B ords.length d],.int .i64 p,.agg #[.int .i64 x,.int .i64 pl,.int .i64 vt,.int .i64 vk,.int .i64 vn]] w fun e w'=>e= .returned (.bool r)∧Upd No w w':=by subst hr;exact Zvx F w txs ords A c B d p ⟨x,pl,⟨vt,vk,vn⟩⟩ H
theorem Zgz {F:Nat→Prop} {w:World} {txs:List HTx} {ords:List HOrd} {A:Option Addr} {c:Nat} {B:Option Addr} {d:Nat} {e:Edge} {r:Bool} (H:Hist.lies F w ⟨txs,ords,A,c,B,d⟩) (hr:ZN ⟨txs,ords,A,c,B,d⟩ e=r):
  Calls Tryz.prog 67 #[.agg #[.slice A txs.length c,.slice B ords.length d],.agg #[.int .i64 e.f,.int .i64 e.t,.int .i64 e.k,.int .i64 e.key]] w fun q w'=>q= .returned (.bool r)∧Upd No w w':=by subst hr;exact ZuY F w txs ords A c B d e H
theorem ZgF {h:Hist} {l:List Edge} {k:Nat} (hk:k<l.length) (he:ZN h l[k]=false):l.all (ZN h)=false:=by
 rw[List.all_eq_false];exact⟨l[k],List.getElem_mem hk,by rw[he];decide⟩
theorem Zf1 {h:Hist} {l:List Edge} (he:∀(j:Nat) (hj:j<l.length),ZN h l[j]=true):l.all (ZN h)=true:=by
 rw[List.all_eq_true];intro x hx;obtain⟨k,hk,rfl⟩:=List.mem_iff_getElem.1 hx;exact he k hk
set_option maxRecDepth 100000 in
set_option maxHeartbeats 8000000 in
theorem ZsU (F G:Nat→Prop) (w:World) (h:Hist) (p:Int) (X:Option Addr) (xc:Nat) (l:List Edge) (b:HBad) (H:h.lies F w) (W:Walk G w X l) (hl:l.length≤1000000):
  Calls Tryz.prog 29 #[h.val,.agg #[.int .i64 p,.slice X l.length xc,.int .i64 b.tx,.int .i64 b.place,.int .i64 b.of.tx,.int .i64 b.of.key,.int .i64 b.of.nth]] w fun e w'=>e= .returned (.bool (Zl h p l b))∧Upd No w w':=by
 obtain⟨txs,ords,A,c,B,d⟩:=h;obtain⟨bx,bp,⟨vt,vk,vn⟩⟩:=b;unfold Hist.val;have u0:=((Upd.refl No w).alloc (.cells #[.slice A txs.length c,.slice B ords.length d] 50)).alloc (.cells #[.int .i64 p,.slice X l.length xc,.int .i64 bx,.int .i64 bp,.int .i64 vt,.int .i64 vk,.int .i64 vn] 40);have bH:=Qh ((Blk.new w 50 [.slice A txs.length c,.slice B ords.length d]).alloc (.cells #[.int .i64 p,.slice X l.length xc,.int .i64 bx,.int .i64 bp,.int .i64 vt,.int .i64 vk,.int .i64 vn] 40));have b1:=Blk.new (w.alloc (.cells #[.slice A txs.length c,.slice B ords.length d] 50)) 40 [.int .i64 p,.slice X l.length xc,.int .i64 bx,.int .i64 bp,.int .i64 vt,.int .i64 vk,.int .i64 vn];simp only[World.size_alloc]at b1;have bW:=Qh b1;have qN:=ZsV;have HQ:=Qh qN;have H0:=Qh (H.upd u0 (fun _ _=>id));clear b1 qN
 cases hr:Zb ⟨txs,ords,A,c,B,d⟩
 ·have hv:=Qh (Zs1 (p:=p) (l:=l) (b:=⟨bx,bp,⟨vt,vk,vn⟩⟩) hr);have Hr:=Qh hr;clear hr
  go_enter Tryz.func29,Tryz.ntmps29
  go_wp2_with fail
  refine(Zdw H0.out Hr.out).mono ?_;rintro e w1 ⟨rfl,hu1⟩;go_wp2
  go_ret
  exact⟨by rw[hv.out];rfl,u0.trans hu1⟩
 ·have Hr:=Qh hr;clear hr
  go_enter Tryz.func29,Tryz.ntmps29
  go_wp2_with fail
  refine(Zdw H0.out Hr.out).mono ?_;rintro e w1 ⟨rfl,hu1⟩;have uR:=hu1.alloc (.cells #[.slice A txs.length c,.slice B ords.length d] 117);have bR:=Qh (Blk.new w1 117 [.slice A txs.length c,.slice B ords.length d]);have bW1:=Qh (bW.out.upd uR id);have bH1:=bH.out.upd hu1 id;have U1:=Qh (u0.trans uR);have h0:=bH1.cell 0;have h1:=bH1.cell 1;have y0:=bW1.out.cell 0;have y1:=bW1.out.cell 1;have y2:=bW1.out.cell 2;have y3:=bW1.out.cell 3;have y4:=bW1.out.cell 4;have y5:=bW1.out.cell 5;have y6:=bW1.out.cell 6;simp only[Qz,Qs]at h0 h1 y0 y1 y2 y3 y4 y5 y6;have HB:=Qh (fun W' (hW:Upd No (w1.alloc (.cells #[.slice A txs.length c,.slice B ords.length d] 117)) W')=>H.upd (U1.out.trans hW) (fun _ _=>id));have WB:=Qh (fun W' (hW:Upd No (w1.alloc (.cells #[.slice A txs.length c,.slice B ords.length d] 117)) W')=>W.upd (U1.out.trans hW) (fun _ _=>id));clear u0 hu1 uR bH1
  by_cases hp:p=2∨p=3
  ·have hv0:=Zs2 (h:=⟨txs,ords,A,c,B,d⟩) (l:=l) (b:=⟨bx,bp,⟨vt,vk,vn⟩⟩) Hr.out hp
   by_cases hl0:l.length=0
   ·have hlb:((l.length:Int)==0)=true:=by rw[beq_iff_eq];omega
    obtain⟨r,hbr⟩:∃r,ZaK txs p ⟨bx,bp,⟨vt,vk,vn⟩⟩=r:=⟨_,rfl⟩;have Hb:=Qh hbr;have hv:=Qh (show Zl ⟨txs,ords,A,c,B,d⟩ p l ⟨bx,bp,⟨vt,vk,vn⟩⟩=r by rw[hv0,decide_eq_true hl0];exact hbr);clear hl0 hv0 hbr;rcases hp with hp|hp
    ·subst hp
     go_wp2_with fail
     refine(Zn0 (HB.out _ (Upd.refl No _)) Hb.out).mono ?_;rintro e w2 ⟨rfl,hu2⟩;go_wp2
     go_ret
     exact⟨by rw[hv.out];rfl,U1.out.trans hu2⟩
    ·subst hp
     go_wp2_with fail
     refine(Zn0 (HB.out _ (Upd.refl No _)) Hb.out).mono ?_;rintro e w2 ⟨rfl,hu2⟩;go_wp2
     go_ret
     exact⟨by rw[hv.out];rfl,U1.out.trans hu2⟩
   ·have hlb:((l.length:Int)==0)=false:=by rw[beq_eq_false_iff_ne];omega
    have hv:=Qh (show Zl ⟨txs,ords,A,c,B,d⟩ p l ⟨bx,bp,⟨vt,vk,vn⟩⟩=false by rw[hv0,decide_eq_false hl0];rfl);clear hl0 hv0;rcases hp with hp|hp
    ·subst hp;go_wp2
     go_ret
     exact⟨by rw[hv.out];rfl,U1.out⟩
    ·subst hp;go_wp2
     go_ret
     exact⟨by rw[hv.out];rfl,U1.out⟩
  ·have hv0:=Zrv (h:=⟨txs,ords,A,c,B,d⟩) (l:=l) (b:=⟨bx,bp,⟨vt,vk,vn⟩⟩) Hr.out hp;have hpb2:(p==2)=false:=by rw[beq_eq_false_iff_ne];exact fun e=>hp (.inl e)
   have hpb3:(p==3)=false:=by rw[beq_eq_false_iff_ne];exact fun e=>hp (.inr e)
   clear hp;obtain⟨M,hM⟩:∃M,Zan p=M:=⟨_,rfl⟩;obtain⟨T,hT⟩:∃T,ZaS p=T:=⟨_,rfl⟩;obtain⟨K,hK⟩:∃K,Zck l=K:=⟨_,rfl⟩;rw[hM,hK]at hv0;unfold Zfe at hv0;rw[hM,hT]at hv0;have hpm:=ZkZ (w1.alloc (.cells #[.slice A txs.length c,.slice B ords.length d] 117)) p;rw[hM,hT]at hpm;have HPM:=Qh hpm;have HV0:=Qh hv0;have HK:=Qh hK;clear hpm hv0 hM hT hK
   go_wp2_with fail
   refine(HPM.out).mono ?_;rintro e w2 ⟨rfl,rfl⟩;have hmk:=Zt9 _ (w1.alloc (.cells #[.slice A txs.length c,.slice B ords.length d] 117)) X xc l (WB.out _ (Upd.refl No _)) hl;rw[HK.out]at hmk;have HMK:=Qh hmk;clear hmk
   go_wp2_with fail
   refine(HMK.out).mono ?_;rintro e w2 ⟨rfl,hu2⟩;have bW2:=bW1.out.upd hu2 id;have bR2:=Qh (bR.out.upd hu2 id);have U2:=Qh hu2;clear y0 y1 y2 y3 y4 y5 y6 h0 h1 hu2;have y1:=bW2.cell 1;have y2:=bW2.cell 2;have y3:=bW2.cell 3;have y4:=bW2.cell 4;have y5:=bW2.cell 5;have y6:=bW2.cell 6;simp only[Qz,Qs]at y1 y2 y3 y4 y5 y6;have BW2:=Qh bW2;clear bW2
   cases hM0:M==0
   ·have qn:=fun w=>HQ.out w ⟨bx,bp,⟨vt,vk,vn⟩⟩ Zcx
    simp only[Zcx]at qn
    cases hb0:((⟨bx,bp,⟨vt,vk,vn⟩⟩:HBad)==Zcx)
    ·have hv:=Qh (show Zl ⟨txs,ords,A,c,B,d⟩ p l ⟨bx,bp,⟨vt,vk,vn⟩⟩=false by rw[HV0.out,hb0];simp);have qn2:=fun w=>(qn w).trans (by rw[show((⟨bx,bp,⟨vt,vk,vn⟩⟩:HBad) != ⟨0,0,⟨0,0,0⟩⟩)=true from by unfold bne;rw[show((⟨bx,bp,⟨vt,vk,vn⟩⟩:HBad)==⟨0,0,⟨0,0,0⟩⟩)=false from hb0];rfl])
     clear qn hb0;go_wp2
     go_ret
     exact⟨by rw[hv.out];rfl,U1.out.trans U2.out⟩
    ·have qn2:=fun w=>(qn w).trans (by rw[show((⟨bx,bp,⟨vt,vk,vn⟩⟩:HBad) != ⟨0,0,⟨0,0,0⟩⟩)=false from by unfold bne;rw[show((⟨bx,bp,⟨vt,vk,vn⟩⟩:HBad)==⟨0,0,⟨0,0,0⟩⟩)=true from hb0];rfl])
     have hcl:=Zr4 _ w2 X xc l (WB.out _ U2.out) hl
     cases hc:ZaP l
     ·rw[hc]at hcl;have HCL:=Qh hcl;have hv:=Qh (show Zl ⟨txs,ords,A,c,B,d⟩ p l ⟨bx,bp,⟨vt,vk,vn⟩⟩=false by rw[HV0.out,hc];simp);clear qn hb0 hc hcl
      go_wp2_with fail
      refine(HCL.out).mono ?_;rintro e w3 ⟨rfl,hu3⟩;go_wp2
      go_ret
      exact⟨by rw[hv.out];rfl,(U1.out.trans U2.out).trans hu3⟩
     ·rw[hc]at hcl;have HCL:=Qh hcl;have hv1:Zl ⟨txs,ords,A,c,B,d⟩ p l ⟨bx,bp,⟨vt,vk,vn⟩⟩=(((bits .andNot .i64 K M==0)&&(T==0|| !(bits .and .i64 K T==0)))&&l.all (ZN ⟨txs,ords,A,c,B,d⟩)):=by rw[HV0.out,hM0,hb0,hc];rfl
      obtain⟨K1,hK1⟩:∃K1,bits .andNot .i64 K M=K1:=⟨_,rfl⟩;obtain⟨K2,hK2⟩:∃K2,bits .and .i64 K T=K2:=⟨_,rfl⟩;rw[hK1,hK2]at hv1;have HVV:=Qh hv1;clear qn hb0 hc hcl hv1
      go_wp2_with fail
      refine(HCL.out).mono ?_;rintro e w3 ⟨rfl,hu3⟩;have bW3:=BW2.out.upd hu3 id;have bR3:=Qh (bR2.out.upd hu3 id);have U3:=Qh (U2.out.trans hu3);have r0:=bR3.out.cell 0;have r1:=bR3.out.cell 1;have h0:=bW3.cell 1;have h1:=h0;simp only[Qz,Qs]at r0 r1 h0 h1;clear bW3 hu3
      cases hk1:K1==0
      ·have hk1n:(K1 != 0)=true:=by unfold bne;rw[hk1];rfl
       have hv:=Qh (show Zl ⟨txs,ords,A,c,B,d⟩ p l ⟨bx,bp,⟨vt,vk,vn⟩⟩=false by rw[HVV.out,hk1];rfl);go_wp2
       go_ret
       exact⟨by rw[hv.out];rfl,U1.out.trans U3.out⟩
      ·have hk1n:(K1 != 0)=false:=by unfold bne;rw[hk1];rfl
       cases hT0:T==0
       ·have hTn:(T != 0)=true:=by unfold bne;rw[hT0];rfl
        cases hk2:K2==0
        ·have HV1:=Qh (show Zl ⟨txs,ords,A,c,B,d⟩ p l ⟨bx,bp,⟨vt,vk,vn⟩⟩=l.all (ZN ⟨txs,ords,A,c,B,d⟩) by rw[HVV.out,hk1,hT0,hk2];rfl);go_wp2;clear y1 y2 y3 y4 y5 y6 r0 r1 h0 h1
         go_loopg [75] l.length (fun gk i wr=>∃(k:Nat),k+gk=l.length∧i= .int .i64 k∧Hid (∀(j:Nat) (hj:j<l.length),j<k→ZN ⟨txs,ords,A,c,B,d⟩ l[j]=true)∧Upd No w3 wr)
         case atStart=>exact⟨0,by omega,rfl,Qh (fun j _ hj=>by omega),Upd.refl No _⟩
         case round=>
          obtain⟨k,hgk,rfl,hall,hu⟩:=hrel
          by_cases hlt:k<l.length
          ·obtain⟨ad,hX,e0,e1,e2,e3⟩:=(WB.out _ (U3.out.trans hu)).at_ hlt;obtain⟨x,hx⟩:∃x,l[k]=x:=⟨_,rfl⟩;rw[hx]at e0 e1 e2 e3;subst hX;have XX:=Qh hx;have b1:(0:Int)≤(k:Int):=Qn _;have b2:(k:Int)<(l.length:Int):=by omega
           have uA:=(Upd.refl No wr).alloc (.cells #[.int .i64 x.f,.int .i64 x.t,.int .i64 x.k,.int .i64 x.key] 26);have bRk:=bR3.out.upd (hu.trans uA) id;have rr0:=bRk.cell 0;have rr1:=bRk.cell 1;simp only[Qz,Qs]at rr0 rr1;have Hk:=Qh (HB.out _ (U3.out.trans (hu.trans uA)));clear hx bRk
           cases he:ZN ⟨txs,ords,A,c,B,d⟩ x
           ·have He:=Qh he;have hv:=Qh (show Zl ⟨txs,ords,A,c,B,d⟩ p l ⟨bx,bp,⟨vt,vk,vn⟩⟩=false by rw[HV1.out];exact ZgF hlt (by rw[XX.out];exact he));clear he
            go_wp2_with fail
            refine(Zgz Hk.out He.out).mono ?_;rintro e w5 ⟨rfl,hu5⟩;go_wp2
            go_ret
            exact⟨by rw[hv.out];rfl,(U1.out.trans U3.out).trans ((hu.trans uA).trans hu5)⟩
           ·have He:=Qh he;clear he
            go_wp2_with fail
            refine(Zgz Hk.out He.out).mono ?_;rintro e w5 ⟨rfl,hu5⟩;go_wp2
            go_roundg (gk-1)
            case measure=>omega
            case rel=>exact⟨k+1,by omega,by go_num,Qh (fun j hj hjk=>by
              by_cases e:j=k
              ·subst e;rw[XX.out];exact He.out
              ·exact hall.out j hj (by omega)),(hu.trans uA).trans hu5⟩
          ·obtain rfl:k=l.length:=by omega
           have hv:=Qh (show Zl ⟨txs,ords,A,c,B,d⟩ p l ⟨bx,bp,⟨vt,vk,vn⟩⟩=true by rw[HV1.out];exact Zf1 fun j hj=>hall.out j hj hj);go_wp2
           go_ret
           exact⟨by rw[hv.out];rfl,(U1.out.trans U3.out).trans hu⟩
        ·have hv:=Qh (show Zl ⟨txs,ords,A,c,B,d⟩ p l ⟨bx,bp,⟨vt,vk,vn⟩⟩=false by rw[HVV.out,hk1,hT0,hk2];rfl);go_wp2
         go_ret
         exact⟨by rw[hv.out];rfl,U1.out.trans U3.out⟩
       ·have hTn:(T != 0)=false:=by unfold bne;rw[hT0];rfl
        have HV1:=Qh (show Zl ⟨txs,ords,A,c,B,d⟩ p l ⟨bx,bp,⟨vt,vk,vn⟩⟩=l.all (ZN ⟨txs,ords,A,c,B,d⟩) by rw[HVV.out,hk1,hT0];simp);go_wp2;clear y1 y2 y3 y4 y5 y6 r0 r1 h0 h1
        go_loopg [75] l.length (fun gk i wr=>∃(k:Nat),k+gk=l.length∧i= .int .i64 k∧Hid (∀(j:Nat) (hj:j<l.length),j<k→ZN ⟨txs,ords,A,c,B,d⟩ l[j]=true)∧Upd No w3 wr)
        case atStart=>exact⟨0,by omega,rfl,Qh (fun j _ hj=>by omega),Upd.refl No _⟩
        case round=>
         obtain⟨k,hgk,rfl,hall,hu⟩:=hrel
         by_cases hlt:k<l.length
         ·obtain⟨ad,hX,e0,e1,e2,e3⟩:=(WB.out _ (U3.out.trans hu)).at_ hlt;obtain⟨x,hx⟩:∃x,l[k]=x:=⟨_,rfl⟩;rw[hx]at e0 e1 e2 e3;subst hX;have XX:=Qh hx;have b1:(0:Int)≤(k:Int):=Qn _;have b2:(k:Int)<(l.length:Int):=by omega
          have uA:=(Upd.refl No wr).alloc (.cells #[.int .i64 x.f,.int .i64 x.t,.int .i64 x.k,.int .i64 x.key] 26);have bRk:=bR3.out.upd (hu.trans uA) id;have rr0:=bRk.cell 0;have rr1:=bRk.cell 1;simp only[Qz,Qs]at rr0 rr1;have Hk:=Qh (HB.out _ (U3.out.trans (hu.trans uA)));clear hx bRk
          cases he:ZN ⟨txs,ords,A,c,B,d⟩ x
          ·have He:=Qh he;have hv:=Qh (show Zl ⟨txs,ords,A,c,B,d⟩ p l ⟨bx,bp,⟨vt,vk,vn⟩⟩=false by rw[HV1.out];exact ZgF hlt (by rw[XX.out];exact he));clear he
           go_wp2_with fail
           refine(Zgz Hk.out He.out).mono ?_;rintro e w5 ⟨rfl,hu5⟩;go_wp2
           go_ret
           exact⟨by rw[hv.out];rfl,(U1.out.trans U3.out).trans ((hu.trans uA).trans hu5)⟩
          ·have He:=Qh he;clear he
           go_wp2_with fail
           refine(Zgz Hk.out He.out).mono ?_;rintro e w5 ⟨rfl,hu5⟩;go_wp2
           go_roundg (gk-1)
           case measure=>omega
           case rel=>exact⟨k+1,by omega,by go_num,Qh (fun j hj hjk=>by
             by_cases e:j=k
             ·subst e;rw[XX.out];exact He.out
             ·exact hall.out j hj (by omega)),(hu.trans uA).trans hu5⟩
         ·obtain rfl:k=l.length:=by omega
          have hv:=Qh (show Zl ⟨txs,ords,A,c,B,d⟩ p l ⟨bx,bp,⟨vt,vk,vn⟩⟩=true by rw[HV1.out];exact Zf1 fun j hj=>hall.out j hj hj);go_wp2
          go_ret
          exact⟨by rw[hv.out];rfl,(U1.out.trans U3.out).trans hu⟩
   ·have hv:=Qh (show Zl ⟨txs,ords,A,c,B,d⟩ p l ⟨bx,bp,⟨vt,vk,vn⟩⟩=false by rw[HV0.out,hM0];rfl);go_wp2
    go_ret
    exact⟨by rw[hv.out];rfl,U1.out.trans U2.out⟩
end
/- The document:the reads that may not be. -/
section
open Go.RowKit
theorem Upd.noR {S:Nat→Prop} {a w w':World} (h:Upd S a w) (k:Upd No w w'):Upd S a w':=h.trans_ k fun _ _ t=>t.elim
def Bads (F:Nat→Prop) (w:World) (A:Option Addr) (l:List HBad):Prop:=Recs F w A 5 (l.map HBad.cells)
theorem Bads.at_ {F:Nat→Prop} {w:World} {A:Option Addr} {l:List HBad} (h:Bads F w A l) {k:Nat} (hk:k<l.length):∃ad,A=some ad∧
  w.cell? (ad.add (k*5))=some (.int .i64 l[k].tx)∧w.cell? ⟨(ad.add (k*5)).block,(ad.add (k*5)).off+1,none⟩=some (.int .i64 l[k].place)∧
  w.cell? ⟨(ad.add (k*5)).block,(ad.add (k*5)).off+2,none⟩=some (.int .i64 l[k].of.tx)∧w.cell? ⟨(ad.add (k*5)).block,(ad.add (k*5)).off+3,none⟩=some (.int .i64 l[k].of.key)∧
  w.cell? ⟨(ad.add (k*5)).block,(ad.add (k*5)).off+4,none⟩=some (.int .i64 l[k].of.nth):=by
 have hk':k<(l.map HBad.cells).length:=by simpa using hk
 obtain⟨ad,e,_,_,hc⟩:=Recs.at_ h hk';rw[List.getElem_map]at hc;exact⟨ad,e,by simpa using hc 0 _ rfl,by simpa using hc 1 _ rfl,by simpa using hc 2 _ rfl,by simpa using hc 3 _ rfl,by simpa using hc 4 _ rfl⟩
theorem Bads.upd {F S:Nat→Prop} {w w':World} {A:Option Addr} {l:List HBad} (h:Bads F w A l) (k:Upd S w w') (hn:∀i,F i→¬S i):Bads F w' A l:=Recs.upd h k hn
theorem Zri {l:List HBad}:∀r∈l.map HBad.cells,r.length=5:=fun r hr=>by
 obtain⟨e,_,rfl⟩:=List.mem_map.1 hr;rfl
theorem Zqe:SlT Tryz.prog 103 38 5 40:=SlT.mk_ Tryz.underlying103 (z:= .agg #[.int .i64 0,.int .i64 0,.int .i64 0,.int .i64 0,.int .i64 0]) (by kernel_rfl) rfl (by omega)
theorem ZlW {w':World} {base:Nat} {l:List HBad} {A:Option Addr} {c:Nat} (h:w'.ownsRow base 38 5 (.slice A l.length c) l.length (l.map HBad.cells).flatten):Bads (fun i=>base≤i) w' A l:=by
 have h2:=Recs.of_own (n:=l.length) (c:=c) Zri (by omega) h;exact Recs.weak h2 fun i _ hi=>(h.lt i hi).1
def Zm4 (w:World) (l:List HBad) (e:Ending) (w':World):Prop:=∃A c,e= .returned (.slice A l.length c)∧w'.ownsRow w.heap.size 38 5 (.slice A l.length c) l.length (l.map HBad.cells).flatten∧Upd No w w'
end
/- Looking at a history:the exported functions,with their values named. -/
section
open Go.RowKit
section
variable {F G:Nat→Prop} {w:World} {txs:List HTx} {ords:List HOrd} {A B:Option Addr} {c d n1 n2:Nat}
set_option maxRecDepth 100000 in
theorem ZlS {e:Edge} {v:Bool} (H:Hist.lies F w ⟨txs,ords,A,c,B,d⟩) (e1:txs.length=n1) (e2:ords.length=n2) (hv:(Zb ⟨txs,ords,A,c,B,d⟩&&ZN ⟨txs,ords,A,c,B,d⟩ e)=v):
  Calls Tryz.prog 64 #[.agg #[.slice A n1 c,.slice B n2 d],.agg #[.int .i64 e.f,.int .i64 e.t,.int .i64 e.k,.int .i64 e.key]] w fun r w'=>r= .returned (.bool v)∧Upd No w w':=by
 subst e1 e2;have u0:=((Upd.refl No w).alloc (.cells #[.slice A txs.length c,.slice B ords.length d] 50)).alloc (.cells #[.int .i64 e.f,.int .i64 e.t,.int .i64 e.k,.int .i64 e.key] 26);have bH:=Qh ((Blk.new w 50 [.slice A txs.length c,.slice B ords.length d]).alloc (.cells #[.int .i64 e.f,.int .i64 e.t,.int .i64 e.k,.int .i64 e.key] 26));have b1:=Blk.new (w.alloc (.cells #[.slice A txs.length c,.slice B ords.length d] 50)) 26 [.int .i64 e.f,.int .i64 e.t,.int .i64 e.k,.int .i64 e.key];simp only[World.size_alloc]at b1;have bE:=Qh b1;have H0:=Qh (H.upd u0 (fun _ _=>id));clear b1
 cases hr:Zb ⟨txs,ords,A,c,B,d⟩
 ·rw[hr]at hv;have HV:=Qh hv;have Hr:=Qh hr;clear hr hv
  go_enter Tryz.func64,Tryz.ntmps64
  go_wp2_with fail
  refine(Zdw H0.out Hr.out).mono ?_;rintro e w1 ⟨rfl,hu1⟩;go_wp2
  go_ret
  exact⟨by rw[←HV.out];rfl,u0.trans hu1⟩
 ·rw[hr,Bool.true_and]at hv;have HV:=Qh hv;have Hr:=Qh hr;clear hr hv
  go_enter Tryz.func64,Tryz.ntmps64
  go_wp2_with fail
  refine(Zdw H0.out Hr.out).mono ?_;rintro e w1 ⟨rfl,hu1⟩;have h0:=(bH.out.upd hu1 id).cell 0;have h1:=(bH.out.upd hu1 id).cell 1;have y0:=(bE.out.upd hu1 id).cell 0;have y1:=(bE.out.upd hu1 id).cell 1;have y2:=(bE.out.upd hu1 id).cell 2;have y3:=(bE.out.upd hu1 id).cell 3;simp only[Qz,Qs]at h0 h1 y0 y1 y2 y3;have H1:=Qh (H.upd (u0.trans hu1) (fun _ _=>id))
  go_wp2_with fail
  refine(Zgz H1.out HV.out).mono ?_;rintro e w2 ⟨rfl,hu2⟩;go_wp2
  go_ret
  exact⟨rfl,(u0.trans hu1).trans hu2⟩
set_option maxRecDepth 100000 in
theorem ZlR {p x pl vt vk vn:Int} {v:Bool} (H:Hist.lies F w ⟨txs,ords,A,c,B,d⟩) (e1:txs.length=n1) (e2:ords.length=n2) (hv:(Zb ⟨txs,ords,A,c,B,d⟩&&ZaK txs p ⟨x,pl,⟨vt,vk,vn⟩⟩)=v):
  Calls Tryz.prog 65 #[.agg #[.slice A n1 c,.slice B n2 d],.int .i64 p,.agg #[.int .i64 x,.int .i64 pl,.int .i64 vt,.int .i64 vk,.int .i64 vn]] w fun r w'=>r= .returned (.bool v)∧Upd No w w':=by
 subst e1 e2;have u0:=((Upd.refl No w).alloc (.cells #[.slice A txs.length c,.slice B ords.length d] 50)).alloc (.cells #[.int .i64 x,.int .i64 pl,.int .i64 vt,.int .i64 vk,.int .i64 vn] 38);have bH:=Qh ((Blk.new w 50 [.slice A txs.length c,.slice B ords.length d]).alloc (.cells #[.int .i64 x,.int .i64 pl,.int .i64 vt,.int .i64 vk,.int .i64 vn] 38));have b1:=Blk.new (w.alloc (.cells #[.slice A txs.length c,.slice B ords.length d] 50)) 38 [.int .i64 x,.int .i64 pl,.int .i64 vt,.int .i64 vk,.int .i64 vn];simp only[World.size_alloc]at b1;have bE:=Qh b1;have H0:=Qh (H.upd u0 (fun _ _=>id));clear b1
 cases hr:Zb ⟨txs,ords,A,c,B,d⟩
 ·rw[hr]at hv;have HV:=Qh hv;have Hr:=Qh hr;clear hr hv
  go_enter Tryz.func65,Tryz.ntmps65
  go_wp2_with fail
  refine(Zdw H0.out Hr.out).mono ?_;rintro e w1 ⟨rfl,hu1⟩;go_wp2
  go_ret
  exact⟨by rw[←HV.out];rfl,u0.trans hu1⟩
 ·rw[hr,Bool.true_and]at hv;have HV:=Qh hv;have Hr:=Qh hr;clear hr hv
  go_enter Tryz.func65,Tryz.ntmps65
  go_wp2_with fail
  refine(Zdw H0.out Hr.out).mono ?_;rintro e w1 ⟨rfl,hu1⟩;have h0:=(bH.out.upd hu1 id).cell 0;have h1:=(bH.out.upd hu1 id).cell 1;have y0:=(bE.out.upd hu1 id).cell 0;have y1:=(bE.out.upd hu1 id).cell 1;have y2:=(bE.out.upd hu1 id).cell 2;have y3:=(bE.out.upd hu1 id).cell 3;have y4:=(bE.out.upd hu1 id).cell 4;simp only[Qz,Qs]at h0 h1 y0 y1 y2 y3 y4;have H1:=Qh (H.upd (u0.trans hu1) (fun _ _=>id))
  go_wp2_with fail
  refine(Zn0 H1.out HV.out).mono ?_;rintro e w2 ⟨rfl,hu2⟩;go_wp2
  go_ret
  exact⟨rfl,(u0.trans hu1).trans hu2⟩
theorem ZcP {X:Option Addr} {xc n:Nat} {l:List Edge} {p x pl vt vk vn:Int} {v:Bool} (H:Hist.lies F w ⟨txs,ords,A,c,B,d⟩) (W:∃G,Walk G w X l) (hl:l.length≤1000000) (e1:txs.length=n1) (e2:ords.length=n2) (e3:l.length=n)
  (hv:Zl ⟨txs,ords,A,c,B,d⟩ p l ⟨x,pl,⟨vt,vk,vn⟩⟩=v):
  Calls Tryz.prog 29 #[.agg #[.slice A n1 c,.slice B n2 d],.agg #[.int .i64 p,.slice X n xc,.int .i64 x,.int .i64 pl,.int .i64 vt,.int .i64 vk,.int .i64 vn]] w fun r w'=>r= .returned (.bool v)∧Upd No w w':=by
 subst e1 e2 e3 hv;obtain⟨G,W⟩:=W;exact ZsU F G w ⟨txs,ords,A,c,B,d⟩ p X xc l ⟨x,pl,⟨vt,vk,vn⟩⟩ H W hl
end
theorem ZbO {w:World} {g size:Nat} {t:TypeId} {rows:List (List Value)} (hr:∀r∈rows,r.length=size) (h:Blk w g t rows.flatten):Recs (fun i=>i=g) w (some ⟨g,0,none⟩) size rows:=fun _=>by
 refine⟨_,rfl,rfl,h.lt,fun i row hi j v hj=> ?_⟩;have e1:(⟨g,0,none⟩:Addr).add (i*size+j)=⟨g,i*size+j,none⟩:=by unfold Addr.add;split<;>simp_all
 rw[e1,h.cell];exact Zex hr hi hj
theorem ZfF {w:World} {g:Nat} {t:TypeId} {xs:List Int} (h:Blk w g t (xs.map (Value.int .i64))):Ints (fun i=>i=g) w (some ⟨g,0,none⟩) xs:=
 Ints.of_row h rfl fun j v hj=>by rw[List.getElem?_toArray,List.getElem?_map,hj];rfl
def Zaj (n:Nat):Hist:=
 ⟨[⟨1,true,[⟨true,1,0,0⟩,⟨false,2,0,0⟩],some ⟨n+1,0,none⟩,2⟩,⟨2,true,[⟨true,2,0,0⟩,⟨false,1,0,0⟩],some ⟨n+1+1,0,none⟩,2⟩],
  [⟨1,[2],some ⟨n+1+1+1+1,0,none⟩,1⟩,⟨2,[1],some ⟨n+1+1+1+1+1,0,none⟩,1⟩],some ⟨n+1+1+1,0,none⟩,2,some ⟨n+1+1+1+1+1+1,0,none⟩,2⟩
theorem Zou {W:World} {n:Nat} {t1 t2 t3 t4:TypeId}
  (b1:Blk W (n+1) t1 [.bool true,.int .i64 1,.int .i64 0,.int .i64 0,.bool false,.int .i64 2,.int .i64 0,.int .i64 0])
  (b2:Blk W (n+1+1) t1 [.bool true,.int .i64 2,.int .i64 0,.int .i64 0,.bool false,.int .i64 1,.int .i64 0,.int .i64 0])
  (b3:Blk W (n+1+1+1) t2 [.int .i64 1,.bool true,.slice (some ⟨n+1,0,none⟩) 2 2,.int .i64 2,.bool true,.slice (some ⟨n+1+1,0,none⟩) 2 2])
  (b4:Blk W (n+1+1+1+1) t3 [.int .i64 2]) (b5:Blk W (n+1+1+1+1+1) t3 [.int .i64 1])
  (b6:Blk W (n+1+1+1+1+1+1) t4 [.int .i64 1,.slice (some ⟨n+1+1+1+1,0,none⟩) 1 1,.int .i64 2,.slice (some ⟨n+1+1+1+1+1,0,none⟩) 1 1]):
  (Zaj n).lies (fun _=>True) W:=by
 have h3:∀(l:List HTx),∀r∈l.map HTx.cells,r.length=3:=fun l r hr=>by
  obtain⟨e,_,rfl⟩:=List.mem_map.1 hr;rfl
 have h2:∀(l:List HOrd),∀r∈l.map HOrd.cells,r.length=2:=fun l r hr=>by
  obtain⟨e,_,rfl⟩:=List.mem_map.1 hr;rfl
 refine⟨(ZbO (h3 _) b3).weak fun _ _ _=>trivial,(ZbO (h2 _) b6).weak fun _ _ _=>trivial,?_,?_,by simp[Zaj],by simp[Zaj],by simp[Zaj],by simp[Zaj]⟩
 ·intro t ht;simp only[Zaj,List.mem_cons,List.not_mem_nil,or_false]at ht;rcases ht with rfl|rfl
  ·refine⟨Recs.weak (ZbO Zdx b1) fun _ _ _=>trivial,by simp,by unfold Zq;simp,by unfold i64;simp,?_⟩;intro o ho;simp only[List.mem_cons,List.not_mem_nil,or_false]at ho;rcases ho with rfl|rfl<;>(unfold HOp.ok i64;decide)
  ·refine⟨Recs.weak (ZbO Zdx b2) fun _ _ _=>trivial,by simp,by unfold Zq;simp,by unfold i64;simp,?_⟩;intro o ho;simp only[List.mem_cons,List.not_mem_nil,or_false]at ho;rcases ho with rfl|rfl<;>(unfold HOp.ok i64;decide)
 ·intro o ho;simp only[Zaj,List.mem_cons,List.not_mem_nil,or_false]at ho;rcases ho with rfl|rfl
  ·refine⟨(ZfF (xs:=[2]) b4).weak fun _ _ _=>trivial,by simp,by simp,by unfold i64;simp,?_⟩;intro n hn;simp only[List.mem_cons,List.not_mem_nil,or_false]at hn;subst hn;unfold i64;decide
  ·refine⟨(ZfF (xs:=[1]) b5).weak fun _ _ _=>trivial,by simp,by simp,by unfold i64;simp,?_⟩;intro n hn;simp only[List.mem_cons,List.not_mem_nil,or_false]at hn;subst hn;unfold i64;decide
set_option maxRecDepth 100000 in
theorem Zue (w:World):Calls Tryz.prog 46 #[] w fun e w'=>e= .returned (.agg #[.slice (some ⟨w.heap.size+1+1+1,0,none⟩) 2 2,.slice (some ⟨w.heap.size+1+1+1+1+1+1,0,none⟩) 2 2])∧(Zaj w.heap.size).lies (fun _=>True) w'∧Upd No w w':=by
 go_enter Tryz.func46,Tryz.ntmps46
 go_wp2;refine bodyPost_ret (v:= .agg #[.slice (some ⟨w.heap.size+1+1+1,0,none⟩) 2 2,.slice (some ⟨w.heap.size+1+1+1+1+1+1,0,none⟩) 2 2]) (by simp[results,Tryz.results46,go_sem]) rfl ⟨rfl,?_,((((((((Upd.refl No w).alloc _).alloc _).alloc _).alloc _).alloc _).alloc _).alloc _)⟩;exact Zou (((((((Blk.new_at (by simp only[World.size_alloc])).alloc _).alloc _).alloc _).alloc _).alloc _)) ((((((Blk.new_at (by simp only[World.size_alloc])).alloc _).alloc _).alloc _).alloc _)) (((((Blk.new_at (by simp only[World.size_alloc])).alloc _).alloc _).alloc _)) ((((Blk.new_at (by simp only[World.size_alloc])).alloc _).alloc _)) (((Blk.new_at (by simp only[World.size_alloc])).alloc _)) (Blk.new_at (by simp only[World.size_alloc]))
def ZcV (n:Nat):Hist:=
 ⟨[⟨1,false,[⟨false,5,0,0⟩],some ⟨n,0,none⟩,1⟩,⟨2,true,[⟨true,5,1,1⟩],some ⟨n+1,0,none⟩,1⟩],[],some ⟨n+1+1,0,none⟩,2,none,0⟩
theorem Zrm {W:World} {n:Nat} {t1 t2:TypeId}
  (b1:Blk W n t1 [.bool false,.int .i64 5,.int .i64 0,.int .i64 0]) (b2:Blk W (n+1) t1 [.bool true,.int .i64 5,.int .i64 1,.int .i64 1])
  (b3:Blk W (n+1+1) t2 [.int .i64 1,.bool false,.slice (some ⟨n,0,none⟩) 1 1,.int .i64 2,.bool true,.slice (some ⟨n+1,0,none⟩) 1 1]):
  (ZcV n).lies (fun _=>True) W:=by
 have h3:∀(l:List HTx),∀r∈l.map HTx.cells,r.length=3:=fun l r hr=>by
  obtain⟨e,_,rfl⟩:=List.mem_map.1 hr;rfl
 refine⟨(ZbO (h3 _) b3).weak fun _ _ _=>trivial,fun h=>absurd rfl h,?_,fun o ho=>by simp[ZcV]at ho,by simp[ZcV],by simp[ZcV],by simp[ZcV],by simp[ZcV]⟩;intro t ht;simp only[ZcV,List.mem_cons,List.not_mem_nil,or_false]at ht;rcases ht with rfl|rfl
 ·refine⟨Recs.weak (ZbO Zdx b1) fun _ _ _=>trivial,by simp,by unfold Zq;simp,by unfold i64;simp,?_⟩;intro o ho;simp only[List.mem_cons,List.not_mem_nil,or_false]at ho;subst ho;unfold HOp.ok i64;decide
 ·refine⟨Recs.weak (ZbO Zdx b2) fun _ _ _=>trivial,by simp,by unfold Zq;simp,by unfold i64;simp,?_⟩;intro o ho;simp only[List.mem_cons,List.not_mem_nil,or_false]at ho;subst ho;unfold HOp.ok i64;decide
def e1:Edge:=⟨1,2,3,1⟩
def e2:Edge:=⟨2,1,3,2⟩
section
variable (n:Nat)
theorem a1:Zl (Zaj n) 5 [e1,e2] Zcx=true:=by kernel_rfl
theorem a2:Zl (Zaj n) 5 [e1,e2,e1,e2] Zcx=true:=by kernel_rfl
theorem a3:Zl (Zaj n) 4 [e1,e2] Zcx=false:=by kernel_rfl
theorem a4:Zl (Zaj n) 5 [e1] Zcx=false:=by kernel_rfl
theorem a5:Zl (Zaj n) 5 [e1,e2] ⟨2,0,⟨1,5,1⟩⟩=false:=by kernel_rfl
theorem a6 (B:Option Addr):Zl ⟨(Zaj n).txs,[],(Zaj n).A,2,B,0⟩ 5 [e1,e2] Zcx=false:=by kernel_rfl
theorem a7:Zl (Zaj n) 5 [] Zcx=false:=by kernel_rfl
theorem a8:(Zb (Zaj n)&&ZN (Zaj n) e1)=true:=by kernel_rfl
theorem a9:(Zb (Zaj n)&&ZN (Zaj n) ⟨1,2,3,2⟩)=false:=by kernel_rfl
theorem a10:(Zb (Zaj n)&&ZN (Zaj n) ⟨1,2,9,1⟩)=false:=by kernel_rfl
theorem a11:(Zb (ZcV n)&&ZaK (ZcV n).txs 2 ⟨2,0,⟨1,5,1⟩⟩)=true:=by kernel_rfl
theorem a12:(Zb (ZcV n)&&ZaK (ZcV n).txs 3 ⟨2,0,⟨1,5,1⟩⟩)=false:=by kernel_rfl
theorem a13:(Zb (ZcV n)&&ZaK (ZcV n).txs 1 ⟨2,0,⟨1,5,1⟩⟩)=false:=by kernel_rfl
theorem a14:Zl (ZcV n) 2 [] ⟨2,0,⟨1,5,1⟩⟩=true:=by kernel_rfl
theorem a15:Zl (ZcV n) 2 [e1,e2] ⟨2,0,⟨1,5,1⟩⟩=false:=by kernel_rfl
end
end
end Go.Proofs.YtonblekdfinpkaaGreat
