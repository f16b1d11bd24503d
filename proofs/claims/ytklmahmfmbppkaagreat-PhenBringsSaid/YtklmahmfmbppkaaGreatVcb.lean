/- Levels: the laws: the walks. -/
import Derived.Test.YtklmahmfmbppkaaGreatVca
namespace Go.Proofs.YtklmahmfmbppkaaGreat
set_option linter.unusedVariables false
set_option linter.unusedSimpArgs false
section
open Go.RowKit
def ZhK:Prop:=∀w:World,Calls Tryz.prog 22 #[] w fun e w'=>e= .returned (.bool true)∧Upd No w w'
set_option maxRecDepth 100000 in
set_option maxHeartbeats 8000000 in
theorem ZqU (F:Nat→Prop) (w:World) (b0 b1 b2 b3 b4 b5:Bool) (l p:Int) (s:ByteArray) (txs:List HTx) (ords:List HOrd) (A:Option Addr) (c:Nat) (B:Option Addr) (d:Nat)
  (H:Hist.lies F w ⟨txs,ords,A,c,B,d⟩) (L:Hid ZhK):
  Calls Tryz.prog 6 #[.agg #[.bool b0,.bool b1,.bool b2,.bool b3,.bool b4,.bool b5],.int .i64 l,.int .i64 p,.string s,.agg #[.slice A txs.length c,.slice B ords.length d]] w fun e w'=>e= .returned (.bool true)∧Upd No w w':=by
 obtain⟨z,hz⟩:∃z,w.heap.size=z:=⟨_,rfl⟩;obtain⟨wh,hwh⟩:∃wh,w.alloc (.cells #[.bool b0,.bool b1,.bool b2,.bool b3,.bool b4,.bool b5] 31)=wh:=⟨_,rfl⟩;have sh:wh.heap.size=z+1:=by rw[←hwh,←hz];simp
 obtain⟨wb,hwb⟩:∃wb,wh.alloc (.cells #[.slice A txs.length c,.slice B ords.length d] 25)=wb:=⟨_,rfl⟩;have u1:Upd No w wh:=by rw[←hwh];exact(Upd.refl No w).alloc _
 have u2:Upd No wh wb:=by rw[←hwb];exact(Upd.refl No wh).alloc _
 have bB:Blk wb z 31 [.bool b0,.bool b1,.bool b2,.bool b3,.bool b4,.bool b5]:=by
  have:Blk wh z 31 [.bool b0,.bool b1,.bool b2,.bool b3,.bool b4,.bool b5]:=by rw[←hwh,←hz];exact Blk.new w _ _
  exact this.upd u2 id
 have bH:Blk wb (z+1) 25 [.slice A txs.length c,.slice B ords.length d]:=by rw[←hwb,←sh];exact Blk.new wh _ _
 have h0:∀W,Upd No wb W→W.cell? ⟨z+1,0,none⟩=some (.slice A txs.length c):=fun W u=>(bH.upd u id).cell 0
 have h1:∀W,Upd No wb W→W.cell? ⟨z+1,1,none⟩=some (.slice B ords.length d):=fun W u=>(bH.upd u id).cell 1
 have a0:∀W,Upd No wb W→W.cell? ⟨z,0,none⟩=some (.bool b0):=fun W u=>(bB.upd u id).cell 0
 have a1:∀W,Upd No wb W→W.cell? ⟨z,1,none⟩=some (.bool b1):=fun W u=>(bB.upd u id).cell 1
 have a2:∀W,Upd No wb W→W.cell? ⟨z,2,none⟩=some (.bool b2):=fun W u=>(bB.upd u id).cell 2
 have a3:∀W,Upd No wb W→W.cell? ⟨z,3,none⟩=some (.bool b3):=fun W u=>(bB.upd u id).cell 3
 have a4:∀W,Upd No wb W→W.cell? ⟨z,4,none⟩=some (.bool b4):=fun W u=>(bB.upd u id).cell 4
 have a5:∀W,Upd No wb W→W.cell? ⟨z,5,none⟩=some (.bool b5):=fun W u=>(bB.upd u id).cell 5
 have hr:Upd No wb wb:=Upd.refl _ _;have U0:=Qh (u1.trans u2);have GH:=Qh (H.upd (u1.trans u2) (fun _ _=>id));obtain⟨v,hv⟩:∃v,ZJ ⟨txs,ords,A,c,B,d⟩=v:=⟨_,rfl⟩;have HV:=Qh hv;have CL:=Qh (fun W (u:Upd No wb W)=>ZfN (GH.out.upd u (fun _ _=>id)) hv);clear u1 u2 bB bH hv H
 go_enter Tryz.func6,Tryz.ntmps6
 cases v
 ·go_wp2_with fail
  refine(CL.out _ hr).mono ?_;rintro e w3 ⟨rfl,hu3⟩
  go_wp2_with fail
  refine(L.out _).mono ?_;rintro e w4 ⟨rfl,hu4⟩;go_wp2
  go_ret
  exact⟨rfl,(U0.out.trans hu3).trans hu4⟩
 obtain⟨f,hf⟩:∃f,Zj ⟨txs,ords,A,c,B,d⟩=f:=⟨_,rfl⟩;have C1:=Qh (fun W (u:Upd No wb W)=>Zgs F W txs ords A c B d (GH.out.upd u (fun _ _=>id)) HV.out);have C2:=Qh (fun W (u:Upd No wb W)=>Zo3 F W txs ords A c B d (GH.out.upd u (fun _ _=>id)) HV.out (Zkm _));rw[hf]at C1 C2;unfold ZdK at C1 C2;obtain⟨v0,hv0⟩:∃v,f 0=v:=⟨_,rfl⟩;obtain⟨v1,hv1⟩:∃v,f 1=v:=⟨_,rfl⟩;obtain⟨v2,hv2⟩:∃v,f 2=v:=⟨_,rfl⟩;obtain⟨v3,hv3⟩:∃v,f 3=v:=⟨_,rfl⟩;obtain⟨v4,hv4⟩:∃v,f 4=v:=⟨_,rfl⟩;obtain⟨v5,hv5⟩:∃v,f 5=v:=⟨_,rfl⟩;rw[hv0,hv1,hv2,hv3,hv4,hv5]at C1 C2;obtain⟨LV,hLV⟩:∃LV,Zt v1 v2 v3 v4 v5=LV:=⟨_,rfl⟩;rw[hLV]at C1 C2;obtain⟨bv,hbv⟩:∃bv,ZD l p=bv:=⟨_,rfl⟩;have D1:=Qh (fun W=>Zqy W l p);have D2:=Qh (fun W=>Zlh W l p);rw[hbv]at D1 D2;obtain⟨LO,hLO⟩:∃LO,Zt b1 b2 b3 b4 b5=LO:=⟨_,rfl⟩;have E1:=Qh (fun W=>lOf W b0 b1 b2 b3 b4 b5);have E2:=Qh (fun W=>Zql W (fun i=>if i=0 then b0 else if i=1 then b1 else if i=2 then b2 else if i=3 then b3 else if i=4 then b4 else b5));have E2':=Qh (show∀W:World,Calls Tryz.prog 26 #[.agg #[.bool b0,.bool b1,.bool b2,.bool b3,.bool b4,.bool b5]] W fun e w'=>e= .returned (.int .i64 (Zt b1 b2 b3 b4 b5))∧Upd No W w' from E2.out);rw[hLO]at E1 E2';obtain⟨wv,hwv⟩:∃wv,Zbs l=wv:=⟨_,rfl⟩;have F1:=Qh (fun W=>Zqv W l);have F2:=Qh (fun W=>Zq6 W l);rw[hwv]at F1 F2;obtain⟨nv,hnv⟩:∃nv,Zcu p=nv:=⟨_,rfl⟩;have G1:=Qh (fun W=>Zqx W p);have G2:=Qh (fun W=>Zq9 W p);rw[hnv]at G1 G2;obtain⟨cv,hcv⟩:∃cv,Za3 p=cv:=⟨_,rfl⟩;have I1:=Qh (fun W=>Zmo W p);have I2:=Qh (fun W=>Zlg W p)
 rw[hcv]at I1 I2;obtain⟨pv,hpv⟩:∃pv,ZcH s=pv:=⟨_,rfl⟩;have J1:=Qh (fun W=>Zqw W s);have J2:=Qh (fun W=>Zq8 W s);rw[hpv]at J1 J2;have q1:(bv==bv)=true:=by simp
 have q2:(LO==LO)=true:=by simp
 have q3:(wv.toList==wv.toList)=true:=by simp
 have q4:(nv.toList==nv.toList)=true:=by simp
 have q5:(cv.toList==cv.toList)=true:=by simp
 have q6:(pv==pv)=true:=by simp
 have h7:= @ZgM;clear hf hv0 hv1 hv2 hv3 hv4 hv5 hLV hbv hLO E2 hwv hnv hcv hpv
 go_wp2_with fail
 refine(CL.out _ hr).mono ?_;rintro e w3 ⟨rfl,hu3⟩;have HU3:=Qh hu3;have hzz:Upd No w3 w3:=Upd.refl _ _;have k0:∀W,Upd No w3 W→W.cell? ⟨z+1,0,none⟩=some (.slice A txs.length c):=fun W u=>h0 W (HU3.out.trans u)
 have k1:∀W,Upd No w3 W→W.cell? ⟨z+1,1,none⟩=some (.slice B ords.length d):=fun W u=>h1 W (HU3.out.trans u)
 have e0:∀W,Upd No w3 W→W.cell? ⟨z,0,none⟩=some (.bool b0):=fun W u=>a0 W (HU3.out.trans u)
 have e1:∀W,Upd No w3 W→W.cell? ⟨z,1,none⟩=some (.bool b1):=fun W u=>a1 W (HU3.out.trans u)
 have e2:∀W,Upd No w3 W→W.cell? ⟨z,2,none⟩=some (.bool b2):=fun W u=>a2 W (HU3.out.trans u)
 have e3:∀W,Upd No w3 W→W.cell? ⟨z,3,none⟩=some (.bool b3):=fun W u=>a3 W (HU3.out.trans u)
 have e4:∀W,Upd No w3 W→W.cell? ⟨z,4,none⟩=some (.bool b4):=fun W u=>a4 W (HU3.out.trans u)
 have e5:∀W,Upd No w3 W→W.cell? ⟨z,5,none⟩=some (.bool b5):=fun W u=>a5 W (HU3.out.trans u)
 clear h0 h1 a0 a1 a2 a3 a4 a5 hr hu3;go_wp2;refine wp_region_noPanic ?_;refine wp_region_held_drew (S:=(fun W'=>Upd No w3 W')) (by kernel_rfl) ?_ (fun hHeld=> ?_)
 ·(first|exact hzz.drew|(with_reducible exact hHeld)|exact hHeld.trans hu9)
 refine wpK 0 rfl ?_;refine wpK 1 rfl ?_;refine wpK 3 rfl ?_;refine wpK 4 rfl ?_;refine wpR [2] ?_;refine wpC rfl (fun K hK=> ?_) AllReadyH.nil;go_simp
 (first
  |(go_at_call 23;refine Calls.mono (D1.out _) ?_;rintro r w9 ⟨rfl,rfl⟩))
 try (go_wp2_with fail)
 refine hK.out _ _ ?_ (fun hHeld=> ?_)
 ·(first|exact hzz.drew|(with_reducible exact hHeld)|exact hHeld.trans hu9)
 clear hK K
 try simp only[Act.put,sT,sS,sZ]
 refine wpR [5] ?_;refine wpC rfl (fun K hK=> ?_) AllReadyH.nil;go_simp
 (first
  |(go_at_call 24;refine Calls.mono (D2.out _) ?_;rintro r w9 ⟨rfl,rfl⟩))
 try (go_wp2_with fail)
 refine hK.out _ _ ?_ (fun hHeld=> ?_)
 ·(first|exact hzz.drew|(with_reducible exact hHeld)|exact hHeld.trans hu9)
 clear hK K
 try simp only[Act.put,sT,sS,sZ]
 refine wpK 6 rfl ?_;refine wpK 7 rfl ?_;refine wpK 8 rfl ?_;refine wpK 10 rfl ?_;refine wpR [9] ?_;refine wpC rfl (fun K hK=> ?_) AllReadyH.nil;go_simp
 (first
  |(go_at_call 25;refine Calls.mono (E1.out _) ?_;rintro r w9 ⟨rfl,hu9⟩))
 try (go_wp2_with fail)
 refine hK.out _ _ ?_ (fun hHeld=> ?_)
 ·(first|exact hzz.drew|(with_reducible exact hHeld)|exact hHeld.trans hu9)
 clear hK K
 try simp only[Act.put,sT,sS,sZ]
 refine wpR [11] ?_;refine wpC rfl (fun K hK=> ?_) AllReadyH.nil;go_simp
 (first
  |(go_at_call 26;refine Calls.mono (E2'.out _) ?_;rintro r w9 ⟨rfl,hu9⟩))
 try (go_wp2_with fail)
 refine hK.out _ _ ?_ (fun hHeld=> ?_)
 ·(first|exact hzz.drew|(with_reducible exact hHeld)|exact hHeld.trans hu9)
 clear hK K
 try simp only[Act.put,sT,sS,sZ]
 refine wpK 12 rfl ?_;refine wpK 13 rfl ?_;refine wpK 14 rfl ?_;refine wpK 15 rfl ?_;refine wpK 17 rfl ?_;refine wpR [16] ?_;refine wpC rfl (fun K hK=> ?_) AllReadyH.nil;go_simp
 (first
  |(go_at_call 27;refine Calls.mono (C1.out _ (HU3.out.trans hHeld)) ?_;rintro r w9 ⟨rfl,hu9⟩))
 try (go_wp2_with fail)
 refine hK.out _ _ ?_ (fun hHeld=> ?_)
 ·(first|exact hzz.drew|(with_reducible exact hHeld)|exact hHeld.trans hu9)
 clear hK K
 try simp only[Act.put,sT,sS,sZ]
 refine wpR [18] ?_;refine wpC rfl (fun K hK=> ?_) AllReadyH.nil;go_simp
 (first
  |(go_at_call 28;refine Calls.mono (C2.out _ (HU3.out.trans hHeld)) ?_;rintro r w9 ⟨rfl,hu9⟩))
 try (go_wp2_with fail)
 refine hK.out _ _ ?_ (fun hHeld=> ?_)
 ·(first|exact hzz.drew|(with_reducible exact hHeld)|exact hHeld.trans hu9)
 clear hK K
 try simp only[Act.put,sT,sS,sZ]
 refine wpK 19 rfl ?_;refine wpK 20 rfl ?_;refine wpK 21 rfl ?_;refine wpK 22 rfl ?_;refine wpK 24 rfl ?_;refine wpR [23] ?_;refine wpC rfl (fun K hK=> ?_) AllReadyH.nil;go_simp
 (first
  |(go_at_call 29;refine Calls.mono (F1.out _) ?_;rintro r w9 ⟨rfl,hu9⟩))
 try (go_wp2_with fail)
 refine hK.out _ _ ?_ (fun hHeld=> ?_)
 ·(first|exact hzz.drew|(with_reducible exact hHeld)|exact hHeld.trans hu9)
 clear hK K
 try simp only[Act.put,sT,sS,sZ]
 refine wpR [25] ?_;refine wpC rfl (fun K hK=> ?_) AllReadyH.nil;go_simp
 (first
  |(go_at_call 30;refine Calls.mono (F2.out _) ?_;rintro r w9 ⟨rfl,hu9⟩))
 try (go_wp2_with fail)
 refine hK.out _ _ ?_ (fun hHeld=> ?_)
 ·(first|exact hzz.drew|(with_reducible exact hHeld)|exact hHeld.trans hu9)
 clear hK K
 try simp only[Act.put,sT,sS,sZ]
 refine wpK 26 rfl ?_;refine wpK 27 rfl ?_;refine wpK 28 rfl ?_;refine wpK 29 rfl ?_;refine wpK 31 rfl ?_;refine wpR [30] ?_;refine wpC rfl (fun K hK=> ?_) AllReadyH.nil;go_simp
 (first
  |(go_at_call 31;refine Calls.mono (G1.out _) ?_;rintro r w9 ⟨rfl,rfl⟩))
 try (go_wp2_with fail)
 refine hK.out _ _ ?_ (fun hHeld=> ?_)
 ·(first|exact hzz.drew|(with_reducible exact hHeld)|exact hHeld.trans hu9)
 clear hK K
 try simp only[Act.put,sT,sS,sZ]
 refine wpR [32] ?_;refine wpC rfl (fun K hK=> ?_) AllReadyH.nil;go_simp
 (first
  |(go_at_call 32;refine Calls.mono (G2.out _) ?_;rintro r w9 ⟨rfl,hu9⟩))
 try (go_wp2_with fail)
 refine hK.out _ _ ?_ (fun hHeld=> ?_)
 ·(first|exact hzz.drew|(with_reducible exact hHeld)|exact hHeld.trans hu9)
 clear hK K
 try simp only[Act.put,sT,sS,sZ]
 refine wpK 33 rfl ?_;refine wpK 34 rfl ?_;refine wpK 35 rfl ?_;refine wpK 36 rfl ?_;refine wpK 38 rfl ?_;refine wpR [37] ?_;refine wpC rfl (fun K hK=> ?_) AllReadyH.nil;go_simp
 (first
  |(go_at_call 33;refine Calls.mono (I1.out _) ?_;rintro r w9 ⟨rfl,rfl⟩))
 try (go_wp2_with fail)
 refine hK.out _ _ ?_ (fun hHeld=> ?_)
 ·(first|exact hzz.drew|(with_reducible exact hHeld)|exact hHeld.trans hu9)
 clear hK K
 try simp only[Act.put,sT,sS,sZ]
 refine wpR [39] ?_;refine wpC rfl (fun K hK=> ?_) AllReadyH.nil;go_simp
 (first
  |(go_at_call 34;refine Calls.mono (I2.out _) ?_;rintro r w9 ⟨rfl,hu9⟩))
 try (go_wp2_with fail)
 refine hK.out _ _ ?_ (fun hHeld=> ?_)
 ·(first|exact hzz.drew|(with_reducible exact hHeld)|exact hHeld.trans hu9)
 clear hK K
 try simp only[Act.put,sT,sS,sZ]
 refine wpK 40 rfl ?_;refine wpK 41 rfl ?_;refine wpK 42 rfl ?_;refine wpK 43 rfl ?_;refine wpK 45 rfl ?_;refine wpR [44] ?_;refine wpC rfl (fun K hK=> ?_) AllReadyH.nil;go_simp
 (first
  |(go_at_call 35;refine Calls.mono (J1.out _) ?_;rintro r w9 ⟨rfl,hu9⟩))
 try (go_wp2_with fail)
 refine hK.out _ _ ?_ (fun hHeld=> ?_)
 ·(first|exact hzz.drew|(with_reducible exact hHeld)|exact hHeld.trans hu9)
 clear hK K
 try simp only[Act.put,sT,sS,sZ]
 refine wpR [46] ?_;refine wpC rfl (fun K hK=> ?_) AllReadyH.nil;go_simp
 (first
  |(go_at_call 36;refine Calls.mono (J2.out _) ?_;rintro r w9 ⟨rfl,hu9⟩))
 try (go_wp2_with fail)
 refine hK.out _ _ ?_ (fun hHeld=> ?_)
 ·(first|exact hzz.drew|(with_reducible exact hHeld)|exact hHeld.trans hu9)
 clear hK K
 try simp only[Act.put,sT,sS,sZ]
 refine wpK 47 rfl ?_;refine wpK 48 rfl ?_;refine wpK 49 rfl ?_;refine wpR [50] ?_;refine wpC rfl (fun K hK=> ?_) AllReadyH.nil;go_simp
 (first
  |(go_at_call 22;refine Calls.mono (L.out _) ?_;rintro r w9 ⟨rfl,hu9⟩))
 try (go_wp2_with fail)
 refine hK.out _ _ ?_ (fun hHeld=> ?_)
 ·(first|exact hzz.drew|(with_reducible exact hHeld)|exact hHeld.trans hu9)
 clear hK K
 try simp only[Act.put,sT,sS,sZ]
 refine wpK 51 rfl ?_;refine wpK 52 rfl ?_;refine wpD (NoPanic.normal ?_);have HH:=Qh hHeld;clear hHeld;go_wp2
 go_ret
 exact⟨rfl,U0.out.trans (HU3.out.trans HH.out)⟩
theorem Zou {l p:Int} (h1:l<3) (h:ZD l p=true):ZD (l+1) p=true:=by
 unfold ZD at h ⊢;simp only[Bool.and_eq_true,Bool.or_eq_true,decide_eq_true_eq,beq_iff_eq]at h ⊢;omega
theorem Zpy (b1 b2 b3 b4 b5:Bool):decide (Zt b1 b2 b3 b4 b5<Zt b1 b2 b3 b4 b5)=false:=decide_eq_false (Int.lt_irrefl _)
theorem Zkb (b1 b2 b3 b4 b5:Bool):decide (Zt b1 b2 b3 b4 b5<Zt true b2 b3 b4 b5)=false∧ZD (Zt true b2 b3 b4 b5) 1=false:=by cases b1<;>cases b2<;>cases b3<;>cases b4<;>cases b5<;>decide
theorem Zka (b1 b2 b3 b4 b5:Bool):decide (Zt b1 b2 b3 b4 b5<Zt b1 true b3 b4 b5)=false∧ZD (Zt b1 true b3 b4 b5) 2=false:=by cases b1<;>cases b2<;>cases b3<;>cases b4<;>cases b5<;>decide
theorem Zj9 (b1 b2 b3 b4 b5:Bool):decide (Zt b1 b2 b3 b4 b5<Zt b1 b2 true b4 b5)=false∧ZD (Zt b1 b2 true b4 b5) 3=false:=by cases b1<;>cases b2<;>cases b3<;>cases b4<;>cases b5<;>decide
theorem Zj8 (b1 b2 b3 b4 b5:Bool):decide (Zt b1 b2 b3 b4 b5<Zt b1 b2 b3 true b5)=false∧ZD (Zt b1 b2 b3 true b5) 4=false:=by cases b1<;>cases b2<;>cases b3<;>cases b4<;>cases b5<;>decide
theorem Zj7 (b1 b2 b3 b4 b5:Bool):decide (Zt b1 b2 b3 b4 b5<Zt b1 b2 b3 b4 true)=false∧ZD (Zt b1 b2 b3 b4 true) 5=false:=by cases b1<;>cases b2<;>cases b3<;>cases b4<;>cases b5<;>decide
theorem Zpx (b1 b2 b3 b4 b5:Bool):Zt b1 b2 b3 b4 b5=0∨Zt b1 b2 b3 b4 b5=1∨Zt b1 b2 b3 b4 b5=2∨Zt b1 b2 b3 b4 b5=3:=by cases b1<;>cases b2<;>cases b3<;>cases b4<;>cases b5<;>decide
def ZfJ (f:Int→Bool) (lv:Int):Nat→Bool
 |0=>lv==3
 |n+1=>ZfJ f lv n||(f ((n+1:Nat):Int)&&ZD (lv+1) ((n+1:Nat):Int))
theorem Zrm (f:Int→Bool) {lv:Int} (h:Zt (f 1) (f 2) (f 3) (f 4) (f 5)=lv):(∀k:Nat,k<5→f ((k+1:Nat):Int)=true→ZD lv ((k+1:Nat):Int)=false)∧ZfJ f lv 5=true:=by
 subst h
 have key:∀b1 b2 b3 b4 b5:Bool,(b1=true→ZD (Zt b1 b2 b3 b4 b5) 1=false)∧(b2=true→ZD (Zt b1 b2 b3 b4 b5) 2=false)∧(b3=true→ZD (Zt b1 b2 b3 b4 b5) 3=false)∧(b4=true→ZD (Zt b1 b2 b3 b4 b5) 4=false)∧(b5=true→ZD (Zt b1 b2 b3 b4 b5) 5=false)∧
   (((((Zt b1 b2 b3 b4 b5==3)||(b1&&ZD (Zt b1 b2 b3 b4 b5+1) 1))||(b2&&ZD (Zt b1 b2 b3 b4 b5+1) 2))||(b3&&ZD (Zt b1 b2 b3 b4 b5+1) 3))||(b4&&ZD (Zt b1 b2 b3 b4 b5+1) 4)||(b5&&ZD (Zt b1 b2 b3 b4 b5+1) 5))=true:=by
  intro b1 b2 b3 b4 b5
  cases b1<;>cases b2<;>cases b3<;>cases b4<;>cases b5<;>decide
 obtain⟨k1,k2,k3,k4,k5,k6⟩:=key (f 1) (f 2) (f 3) (f 4) (f 5);refine⟨fun k hk=> ?_,k6⟩;rcases(show k=0∨k=1∨k=2∨k=3∨k=4 by omega)with rfl|rfl|rfl|rfl|rfl
 ·exact k1
 ·exact k2
 ·exact k3
 ·exact k4
 ·exact k5
theorem Zoo {k:Nat} (hk:k<5):ZcH (Za3 ((k+1:Nat):Int))=((k+1:Nat):Int):=by
 rcases(show k=0∨k=1∨k=2∨k=3∨k=4 by omega)with rfl|rfl|rfl|rfl|rfl<;>decide+kernel
end
/- Levels:the law that they stand in a row:the walk. -/
section
open Go.RowKit
theorem ZoJ (f:Int→Bool) (lv:Int) {k:Nat} (hk:k<5):([.bool (f 0),.bool (f 1),.bool (f 2),.bool (f 3),.bool (f 4),.bool (f 5),.int .i64 lv]:List Value)[k+1]? =some (.bool (f ((k+1:Nat):Int))):=by
 rcases(show k=0∨k=1∨k=2∨k=3∨k=4 by omega)with rfl|rfl|rfl|rfl|rfl<;>rfl
set_option maxRecDepth 100000 in
set_option maxHeartbeats 8000000 in
theorem Zr6 (F:Nat→Prop) (w:World) (b0 b1 b2 b3 b4 b5:Bool) (l p:Int) (txs:List HTx) (ords:List HOrd) (A:Option Addr) (c:Nat) (B:Option Addr) (d:Nat)
  (H:Hist.lies F w ⟨txs,ords,A,c,B,d⟩) (L:Hid ZhK):
  Calls Tryz.prog 7 #[.agg #[.bool b0,.bool b1,.bool b2,.bool b3,.bool b4,.bool b5],.int .i64 l,.int .i64 p,.agg #[.slice A txs.length c,.slice B ords.length d]] w fun e w'=>e= .returned (.bool true)∧Upd No w w':=by
 obtain⟨z,hz⟩:∃z,w.heap.size=z:=⟨_,rfl⟩;obtain⟨wh,hwh⟩:∃wh,w.alloc (.cells #[.bool b0,.bool b1,.bool b2,.bool b3,.bool b4,.bool b5] 31)=wh:=⟨_,rfl⟩;have sh:wh.heap.size=z+1:=by rw[←hwh,←hz];simp
 obtain⟨wb,hwb⟩:∃wb,wh.alloc (.cells #[.slice A txs.length c,.slice B ords.length d] 25)=wb:=⟨_,rfl⟩;have u1:Upd No w wh:=by rw[←hwh];exact(Upd.refl No w).alloc _
 have u2:Upd No wh wb:=by rw[←hwb];exact(Upd.refl No wh).alloc _
 have bB:Blk wb z 31 [.bool b0,.bool b1,.bool b2,.bool b3,.bool b4,.bool b5]:=by
  have:Blk wh z 31 [.bool b0,.bool b1,.bool b2,.bool b3,.bool b4,.bool b5]:=by rw[←hwh,←hz];exact Blk.new w _ _
  exact this.upd u2 id
 have bH:Blk wb (z+1) 25 [.slice A txs.length c,.slice B ords.length d]:=by rw[←hwb,←sh];exact Blk.new wh _ _
 have h0:∀W,Upd No wb W→W.cell? ⟨z+1,0,none⟩=some (.slice A txs.length c):=fun W u=>(bH.upd u id).cell 0
 have h1:∀W,Upd No wb W→W.cell? ⟨z+1,1,none⟩=some (.slice B ords.length d):=fun W u=>(bH.upd u id).cell 1
 have a0:∀W,Upd No wb W→W.cell? ⟨z,0,none⟩=some (.bool b0):=fun W u=>(bB.upd u id).cell 0
 have a1:∀W,Upd No wb W→W.cell? ⟨z,1,none⟩=some (.bool b1):=fun W u=>(bB.upd u id).cell 1
 have a2:∀W,Upd No wb W→W.cell? ⟨z,2,none⟩=some (.bool b2):=fun W u=>(bB.upd u id).cell 2
 have a3:∀W,Upd No wb W→W.cell? ⟨z,3,none⟩=some (.bool b3):=fun W u=>(bB.upd u id).cell 3
 have a4:∀W,Upd No wb W→W.cell? ⟨z,4,none⟩=some (.bool b4):=fun W u=>(bB.upd u id).cell 4
 have a5:∀W,Upd No wb W→W.cell? ⟨z,5,none⟩=some (.bool b5):=fun W u=>(bB.upd u id).cell 5
 have hr:Upd No wb wb:=Upd.refl _ _;have U0:=Qh (u1.trans u2);have GH:=Qh (H.upd (u1.trans u2) (fun _ _=>id));obtain⟨v,hv⟩:∃v,ZJ ⟨txs,ords,A,c,B,d⟩=v:=⟨_,rfl⟩;have HV:=Qh hv;have CL:=Qh (fun W (u:Upd No wb W)=>ZfN (GH.out.upd u (fun _ _=>id)) hv);clear u1 u2 bB bH hv H
 go_enter Tryz.func7,Tryz.ntmps7
 go_wp2_with fail
 refine(L.out _).mono ?_;rintro e w1 ⟨rfl,hu1⟩
 go_wp2_with fail
 refine(CL.out _ hu1).mono ?_;rintro e w3 ⟨rfl,hu3⟩
 cases v
 ·go_wp2
  go_ret
  exact⟨rfl,(U0.out.trans hu1).trans hu3⟩
 obtain⟨f,hf⟩:∃f,Zj ⟨txs,ords,A,c,B,d⟩=f:=⟨_,rfl⟩;have C1:=Qh (fun W (u:Upd No wb W)=>Zgs F W txs ords A c B d (GH.out.upd u (fun _ _=>id)) HV.out);rw[hf]at C1;unfold ZdK at C1;obtain⟨LV,hLV⟩:∃LV,Zt (f 1) (f 2) (f 3) (f 4) (f 5)=LV:=⟨_,rfl⟩;obtain⟨hlaw,hnext⟩:=Zrm f hLV;have hrng:=Zpx (f 1) (f 2) (f 3) (f 4) (f 5);rw[hLV]at C1 hrng;have HLAW:=Qh hlaw;have HNEXT:=Qh hnext;have HRNG:=Qh hrng;have hlv1:0≤LV:=by omega
 have hlv2:LV≤3:=by omega
 obtain⟨LO,hLO⟩:∃LO,Zt b1 b2 b3 b4 b5=LO:=⟨_,rfl⟩;have E1:=Qh (fun W=>ZdA W b0 b1 b2 b3 b4 b5 hLO);have HLO:=Qh hLO;have HU3:=Qh (hu1.trans hu3);clear hf hLV hlaw hnext hrng hLO hu1 hu3
 go_upto_region 5 with fail
 go_cut [36] (fun s wx=>s= .bool false∧Upd No w3 wx)
 case first=>
  clear h0 h1 a0 a1 a2 a3 a4 a5 hr C1 E1
  by_cases l0:0≤l
  ·have d0:decide (0≤l)=true:=decide_eq_true l0
   by_cases l3:l<3
   ·have d3:decide (l<3)=true:=decide_eq_true l3;have lw:IntKind.i64.wrap (l+1)=l+1:=IntWalk.i64_in _ (by omega)
    cases hb:ZD l p
    ·have D1:=Qh (fun W=>Zal W l p hb);clear hb
     go_wp2_with fail
     refine(D1.out _).mono ?_;rintro e w4 ⟨rfl,rfl⟩
     go_wp2_with fail
     go_meet
     exact⟨rfl,Upd.refl _ _⟩
    ·have D1:=Qh (fun W=>Zal W l p hb);have D2:=Qh (fun W=>Zal W (l+1) p (Zou l3 hb));clear hb
     go_wp2_with fail
     refine(D1.out _).mono ?_;rintro e w4 ⟨rfl,rfl⟩
     go_wp2_with fail
     refine(D2.out _).mono ?_;rintro e w4 ⟨rfl,rfl⟩
     go_wp2_with fail
     go_meet
     exact⟨rfl,Upd.refl _ _⟩
   ·have d3:decide (l<3)=false:=decide_eq_false l3
    go_wp2_with fail
    go_meet
    exact⟨rfl,Upd.refl _ _⟩
  ·have d0:decide (0≤l)=false:=decide_eq_false l0
   go_wp2_with fail
   go_meet
   exact⟨rfl,Upd.refl _ _⟩
 case rest=>
  obtain⟨rfl,hu4⟩:=hcut;obtain⟨w4,hw4⟩:∃w4,w4=wc:=⟨_,rfl⟩;subst hw4;have hu34:=HU3.out.trans hu4;have e0:=a0 _ hu34;have e1:=a1 _ hu34;have e2:=a2 _ hu34;have e3:=a3 _ hu34;have e4:=a4 _ hu34;have e5:=a5 _ hu34;clear hu4
  go_wp2_with fail
  refine(E1.out _).mono ?_;rintro e w5 ⟨rfl,hu5⟩;have HU5:=Qh (hu34.trans hu5);clear hu34 hu5 e0 e1 e2 e3 e4 e5;obtain⟨PB,hPB⟩:∃PB,decide (0≤p∧p<6)=PB:=⟨_,rfl⟩;have HPB:=Qh hPB;clear hPB
  go_upto_region 8 with fail
  go_cut [44] (fun s wx=>s= .bool PB∧wx=w5)
  case first=>
   by_cases p0:0≤p
   ·have d0:decide (0≤p)=true:=decide_eq_true p0
    by_cases p6:p<6
    ·have d1:decide (p<6)=true:=decide_eq_true p6;have HT:=Qh (show PB=true by rw[←HPB.out];exact decide_eq_true ⟨p0,p6⟩)
     go_wp2_with fail
     go_meet
     exact⟨by rw[HT.out],rfl⟩
    ·have d1:decide (p<6)=false:=decide_eq_false p6;have HT:=Qh (show PB=false by rw[←HPB.out];exact decide_eq_false (fun h=>p6 h.2))
     go_wp2_with fail
     go_meet
     exact⟨by rw[HT.out],rfl⟩
   ·have d0:decide (0≤p)=false:=decide_eq_false p0;have HT:=Qh (show PB=false by rw[←HPB.out];exact decide_eq_false (fun h=>p0 h.1))
    go_wp2_with fail
    go_meet
    exact⟨by rw[HT.out],rfl⟩
  case rest=>
   obtain⟨rfl,rfl⟩:=hcut;obtain⟨w5,hw5⟩:∃w5,w5=wc:=⟨_,rfl⟩;subst hw5
   go_upto_if 44 with fail
   go_cut [9] (fun s wx=>s= .int .i64 LO∧Upd No w5 wx)
   case first=>
    clear h0 h1 hr C1 E1;have e0:=a0 _ HU5.out;have e1:=a1 _ HU5.out;have e2:=a2 _ HU5.out;have e3:=a3 _ HU5.out;have e4:=a4 _ HU5.out;have e5:=a5 _ HU5.out;clear a0 a1 a2 a3 a4 a5
    cases PB
    ·go_wp2_with fail
     go_meet
     exact⟨rfl,Upd.refl _ _⟩
    ·have hpr:=of_decide_eq_true HPB.out;have hp:p=0∨p=1∨p=2∨p=3∨p=4∨p=5:=by omega
     clear hpr;have hLO:=HLO.out;rcases hp with rfl|rfl|rfl|rfl|rfl|rfl
     ·have hd:=Zpy b1 b2 b3 b4 b5;have M1:=Qh (fun W=>ZdA W true b1 b2 b3 b4 b5 hLO);rw[hLO]at hd;clear hLO
      go_wp2_with fail
      refine(M1.out _).mono ?_;rintro e w6 ⟨rfl,hu6⟩
      go_wp2_with fail
      go_meet
      exact⟨rfl,((Upd.refl No _).alloc _).trans hu6⟩
     ·obtain⟨x,hx⟩:∃x,Zt true b2 b3 b4 b5=x:=⟨_,rfl⟩;have hd:=(Zkb b1 b2 b3 b4 b5).1;have hb:=(Zkb b1 b2 b3 b4 b5).2;rw[hx,hLO]at hd;rw[hx]at hb;have M1:=Qh (fun W=>ZdA W b0 true b2 b3 b4 b5 hx);have M2:=Qh (fun W=>Zal W x 1 hb);obtain⟨wm,hwm⟩:∃wm,w5.alloc (.cells #[.bool b0,.bool true,.bool b2,.bool b3,.bool b4,.bool b5] 31)=wm:=⟨_,rfl⟩;have um:Upd No w5 wm:=by rw[←hwm];exact(Upd.refl No w5).alloc _
      have bm:Blk wm w5.heap.size 31 [.bool b0,.bool true,.bool b2,.bool b3,.bool b4,.bool b5]:=by rw[←hwm];exact Blk.new w5 _ _
      have g0:∀W,Upd No wm W→W.cell? ⟨w5.heap.size,0,none⟩=some (.bool b0):=fun W u=>(bm.upd u id).cell 0
      have g1:∀W,Upd No wm W→W.cell? ⟨w5.heap.size,1,none⟩=some (.bool true):=fun W u=>(bm.upd u id).cell 1
      have g2:∀W,Upd No wm W→W.cell? ⟨w5.heap.size,2,none⟩=some (.bool b2):=fun W u=>(bm.upd u id).cell 2
      have g3:∀W,Upd No wm W→W.cell? ⟨w5.heap.size,3,none⟩=some (.bool b3):=fun W u=>(bm.upd u id).cell 3
      have g4:∀W,Upd No wm W→W.cell? ⟨w5.heap.size,4,none⟩=some (.bool b4):=fun W u=>(bm.upd u id).cell 4
      have g5:∀W,Upd No wm W→W.cell? ⟨w5.heap.size,5,none⟩=some (.bool b5):=fun W u=>(bm.upd u id).cell 5
      have hmm:Upd No wm wm:=Upd.refl _ _;have UM:=Qh um;clear hx hb hLO um bm
      go_wp2_with fail
      refine(M1.out _).mono ?_;rintro e w6 ⟨rfl,hu6⟩
      go_wp2_with fail
      refine(M1.out _).mono ?_;rintro e w7 ⟨rfl,hu7⟩
      go_wp2_with fail
      refine(M2.out _).mono ?_;rintro e w8 ⟨rfl,rfl⟩
      go_wp2_with fail
      go_meet
      exact⟨rfl,(UM.out.trans hu6).trans hu7⟩
     ·obtain⟨x,hx⟩:∃x,Zt b1 true b3 b4 b5=x:=⟨_,rfl⟩;have hd:=(Zka b1 b2 b3 b4 b5).1;have hb:=(Zka b1 b2 b3 b4 b5).2;rw[hx,hLO]at hd;rw[hx]at hb;have M1:=Qh (fun W=>ZdA W b0 b1 true b3 b4 b5 hx);have M2:=Qh (fun W=>Zal W x 2 hb);obtain⟨wm,hwm⟩:∃wm,w5.alloc (.cells #[.bool b0,.bool b1,.bool true,.bool b3,.bool b4,.bool b5] 31)=wm:=⟨_,rfl⟩;have um:Upd No w5 wm:=by rw[←hwm];exact(Upd.refl No w5).alloc _
      have bm:Blk wm w5.heap.size 31 [.bool b0,.bool b1,.bool true,.bool b3,.bool b4,.bool b5]:=by rw[←hwm];exact Blk.new w5 _ _
      have g0:∀W,Upd No wm W→W.cell? ⟨w5.heap.size,0,none⟩=some (.bool b0):=fun W u=>(bm.upd u id).cell 0
      have g1:∀W,Upd No wm W→W.cell? ⟨w5.heap.size,1,none⟩=some (.bool b1):=fun W u=>(bm.upd u id).cell 1
      have g2:∀W,Upd No wm W→W.cell? ⟨w5.heap.size,2,none⟩=some (.bool true):=fun W u=>(bm.upd u id).cell 2
      have g3:∀W,Upd No wm W→W.cell? ⟨w5.heap.size,3,none⟩=some (.bool b3):=fun W u=>(bm.upd u id).cell 3
      have g4:∀W,Upd No wm W→W.cell? ⟨w5.heap.size,4,none⟩=some (.bool b4):=fun W u=>(bm.upd u id).cell 4
      have g5:∀W,Upd No wm W→W.cell? ⟨w5.heap.size,5,none⟩=some (.bool b5):=fun W u=>(bm.upd u id).cell 5
      have hmm:Upd No wm wm:=Upd.refl _ _;have UM:=Qh um;clear hx hb hLO um bm
      go_wp2_with fail
      refine(M1.out _).mono ?_;rintro e w6 ⟨rfl,hu6⟩
      go_wp2_with fail
      refine(M1.out _).mono ?_;rintro e w7 ⟨rfl,hu7⟩
      go_wp2_with fail
      refine(M2.out _).mono ?_;rintro e w8 ⟨rfl,rfl⟩
      go_wp2_with fail
      go_meet
      exact⟨rfl,(UM.out.trans hu6).trans hu7⟩
     ·obtain⟨x,hx⟩:∃x,Zt b1 b2 true b4 b5=x:=⟨_,rfl⟩;have hd:=(Zj9 b1 b2 b3 b4 b5).1;have hb:=(Zj9 b1 b2 b3 b4 b5).2;rw[hx,hLO]at hd;rw[hx]at hb;have M1:=Qh (fun W=>ZdA W b0 b1 b2 true b4 b5 hx);have M2:=Qh (fun W=>Zal W x 3 hb);obtain⟨wm,hwm⟩:∃wm,w5.alloc (.cells #[.bool b0,.bool b1,.bool b2,.bool true,.bool b4,.bool b5] 31)=wm:=⟨_,rfl⟩;have um:Upd No w5 wm:=by rw[←hwm];exact(Upd.refl No w5).alloc _
      have bm:Blk wm w5.heap.size 31 [.bool b0,.bool b1,.bool b2,.bool true,.bool b4,.bool b5]:=by rw[←hwm];exact Blk.new w5 _ _
      have g0:∀W,Upd No wm W→W.cell? ⟨w5.heap.size,0,none⟩=some (.bool b0):=fun W u=>(bm.upd u id).cell 0
      have g1:∀W,Upd No wm W→W.cell? ⟨w5.heap.size,1,none⟩=some (.bool b1):=fun W u=>(bm.upd u id).cell 1
      have g2:∀W,Upd No wm W→W.cell? ⟨w5.heap.size,2,none⟩=some (.bool b2):=fun W u=>(bm.upd u id).cell 2
      have g3:∀W,Upd No wm W→W.cell? ⟨w5.heap.size,3,none⟩=some (.bool true):=fun W u=>(bm.upd u id).cell 3
      have g4:∀W,Upd No wm W→W.cell? ⟨w5.heap.size,4,none⟩=some (.bool b4):=fun W u=>(bm.upd u id).cell 4
      have g5:∀W,Upd No wm W→W.cell? ⟨w5.heap.size,5,none⟩=some (.bool b5):=fun W u=>(bm.upd u id).cell 5
      have hmm:Upd No wm wm:=Upd.refl _ _;have UM:=Qh um;clear hx hb hLO um bm
      go_wp2_with fail
      refine(M1.out _).mono ?_;rintro e w6 ⟨rfl,hu6⟩
      go_wp2_with fail
      refine(M1.out _).mono ?_;rintro e w7 ⟨rfl,hu7⟩
      go_wp2_with fail
      refine(M2.out _).mono ?_;rintro e w8 ⟨rfl,rfl⟩
      go_wp2_with fail
      go_meet
      exact⟨rfl,(UM.out.trans hu6).trans hu7⟩
     ·obtain⟨x,hx⟩:∃x,Zt b1 b2 b3 true b5=x:=⟨_,rfl⟩;have hd:=(Zj8 b1 b2 b3 b4 b5).1;have hb:=(Zj8 b1 b2 b3 b4 b5).2;rw[hx,hLO]at hd;rw[hx]at hb;have M1:=Qh (fun W=>ZdA W b0 b1 b2 b3 true b5 hx);have M2:=Qh (fun W=>Zal W x 4 hb);obtain⟨wm,hwm⟩:∃wm,w5.alloc (.cells #[.bool b0,.bool b1,.bool b2,.bool b3,.bool true,.bool b5] 31)=wm:=⟨_,rfl⟩;have um:Upd No w5 wm:=by rw[←hwm];exact(Upd.refl No w5).alloc _
      have bm:Blk wm w5.heap.size 31 [.bool b0,.bool b1,.bool b2,.bool b3,.bool true,.bool b5]:=by rw[←hwm];exact Blk.new w5 _ _
      have g0:∀W,Upd No wm W→W.cell? ⟨w5.heap.size,0,none⟩=some (.bool b0):=fun W u=>(bm.upd u id).cell 0
      have g1:∀W,Upd No wm W→W.cell? ⟨w5.heap.size,1,none⟩=some (.bool b1):=fun W u=>(bm.upd u id).cell 1
      have g2:∀W,Upd No wm W→W.cell? ⟨w5.heap.size,2,none⟩=some (.bool b2):=fun W u=>(bm.upd u id).cell 2
      have g3:∀W,Upd No wm W→W.cell? ⟨w5.heap.size,3,none⟩=some (.bool b3):=fun W u=>(bm.upd u id).cell 3
      have g4:∀W,Upd No wm W→W.cell? ⟨w5.heap.size,4,none⟩=some (.bool true):=fun W u=>(bm.upd u id).cell 4
      have g5:∀W,Upd No wm W→W.cell? ⟨w5.heap.size,5,none⟩=some (.bool b5):=fun W u=>(bm.upd u id).cell 5
      have hmm:Upd No wm wm:=Upd.refl _ _;have UM:=Qh um;clear hx hb hLO um bm
      go_wp2_with fail
      refine(M1.out _).mono ?_;rintro e w6 ⟨rfl,hu6⟩
      go_wp2_with fail
      refine(M1.out _).mono ?_;rintro e w7 ⟨rfl,hu7⟩
      go_wp2_with fail
      refine(M2.out _).mono ?_;rintro e w8 ⟨rfl,rfl⟩
      go_wp2_with fail
      go_meet
      exact⟨rfl,(UM.out.trans hu6).trans hu7⟩
     ·obtain⟨x,hx⟩:∃x,Zt b1 b2 b3 b4 true=x:=⟨_,rfl⟩;have hd:=(Zj7 b1 b2 b3 b4 b5).1;have hb:=(Zj7 b1 b2 b3 b4 b5).2;rw[hx,hLO]at hd;rw[hx]at hb;have M1:=Qh (fun W=>ZdA W b0 b1 b2 b3 b4 true hx);have M2:=Qh (fun W=>Zal W x 5 hb);obtain⟨wm,hwm⟩:∃wm,w5.alloc (.cells #[.bool b0,.bool b1,.bool b2,.bool b3,.bool b4,.bool true] 31)=wm:=⟨_,rfl⟩;have um:Upd No w5 wm:=by rw[←hwm];exact(Upd.refl No w5).alloc _
      have bm:Blk wm w5.heap.size 31 [.bool b0,.bool b1,.bool b2,.bool b3,.bool b4,.bool true]:=by rw[←hwm];exact Blk.new w5 _ _
      have g0:∀W,Upd No wm W→W.cell? ⟨w5.heap.size,0,none⟩=some (.bool b0):=fun W u=>(bm.upd u id).cell 0
      have g1:∀W,Upd No wm W→W.cell? ⟨w5.heap.size,1,none⟩=some (.bool b1):=fun W u=>(bm.upd u id).cell 1
      have g2:∀W,Upd No wm W→W.cell? ⟨w5.heap.size,2,none⟩=some (.bool b2):=fun W u=>(bm.upd u id).cell 2
      have g3:∀W,Upd No wm W→W.cell? ⟨w5.heap.size,3,none⟩=some (.bool b3):=fun W u=>(bm.upd u id).cell 3
      have g4:∀W,Upd No wm W→W.cell? ⟨w5.heap.size,4,none⟩=some (.bool b4):=fun W u=>(bm.upd u id).cell 4
      have g5:∀W,Upd No wm W→W.cell? ⟨w5.heap.size,5,none⟩=some (.bool true):=fun W u=>(bm.upd u id).cell 5
      have hmm:Upd No wm wm:=Upd.refl _ _;have UM:=Qh um;clear hx hb hLO um bm
      go_wp2_with fail
      refine(M1.out _).mono ?_;rintro e w6 ⟨rfl,hu6⟩
      go_wp2_with fail
      refine(M1.out _).mono ?_;rintro e w7 ⟨rfl,hu7⟩
      go_wp2_with fail
      refine(M2.out _).mono ?_;rintro e w8 ⟨rfl,rfl⟩
      go_wp2_with fail
      go_meet
      exact⟨rfl,(UM.out.trans hu6).trans hu7⟩
   case rest=>
    obtain⟨rfl,hu6⟩:=hcut;obtain⟨w6,hw6⟩:∃w6,w6=wc:=⟨_,rfl⟩;subst hw6;have hu36:=HU5.out.trans hu6;have k0:∀W,Upd No w6 W→W.cell? ⟨z+1,0,none⟩=some (.slice A txs.length c):=fun W u=>h0 W (hu36.trans u)
    have k1:∀W,Upd No w6 W→W.cell? ⟨z+1,1,none⟩=some (.slice B ords.length d):=fun W u=>h1 W (hu36.trans u)
    have hz6:Upd No w6 w6:=Upd.refl _ _;clear h0 h1 a0 a1 a2 a3 a4 a5 hr hu6
    go_wp2_with fail
    refine(C1.out _ hu36).mono ?_;rintro e w7 ⟨rfl,hu7⟩;obtain⟨y,hy⟩:∃y,w7.heap.size=y:=⟨_,rfl⟩;obtain⟨wv,hwv⟩:∃wv,w7.alloc (.cells #[.bool (f 0),.bool (f 1),.bool (f 2),.bool (f 3),.bool (f 4),.bool (f 5),.int .i64 LV] 52)=wv:=⟨_,rfl⟩;have uv:Upd No w7 wv:=by rw[←hwv];exact(Upd.refl No w7).alloc _
    have bv:Blk wv y 52 [.bool (f 0),.bool (f 1),.bool (f 2),.bool (f 3),.bool (f 4),.bool (f 5),.int .i64 LV]:=by rw[←hwv,←hy];exact Blk.new w7 _ _
    have HBV:=Qh bv;have c6:∀W,Upd No wv W→W.cell? ⟨y,6,none⟩=some (.int .i64 LV):=fun W u=>(bv.upd u id).cell 6
    have hvv:Upd No wv wv:=Upd.refl _ _;have HUV:=Qh ((hu36.trans hu7).trans uv);clear uv bv hu36 hu7 k0 k1 hz6;go_wp2;clear hwv hy
    go_loopg [12,13] 5 (fun gk b i wr=>∃k:Nat,k+gk=5∧i= .int .i64 (((k+1:Nat):Int))∧b= .bool (ZfJ f LV k)∧Hid (Upd No wv wr))
    case atStart=>exact⟨0,by omega,rfl,rfl,Qh (Upd.refl _ _)⟩
    case round=>
     obtain⟨k,hgk,rfl,rfl,hu⟩:=hrel
     by_cases hk:k<5
     ·have hge:=ZoJ f LV hk;have hcell:∀W,Upd No wr W→W.cell? ⟨y,k+1,none⟩=some (.bool (f ((k+1:Nat):Int))):=fun W u=>by rw[(HBV.out.upd (hu.out.trans u) id).cell];exact hge
      have hl1:=HLAW.out k hk;have hcb:=Zoo hk;have hnx:ZfJ f LV (k+1)=(ZfJ f LV k||(f ((k+1:Nat):Int)&&ZD (LV+1) ((k+1:Nat):Int))):=rfl;obtain⟨PK,hPK⟩:∃PK:Int,((k+1:Nat):Int)=PK:=⟨_,rfl⟩;have HP:=Qh hPK;have hpn:PK.toNat=k+1:=by omega
      rw[hPK]at hcell hl1 hcb hnx ⊢;have l1:PK<6:=by omega
      have l2:(0:Int)≤PK:=by omega
      have pw:IntKind.i64.wrap (PK+1)=PK+1:=IntWalk.i64_in _ (by omega);have lw:IntKind.i64.wrap (LV+1)=LV+1:=IntWalk.i64_in _ (by omega);obtain⟨fv,hfv⟩:∃fv,f PK=fv:=⟨_,rfl⟩;obtain⟨nv,hnv⟩:∃nv,ZfJ f LV k=nv:=⟨_,rfl⟩;obtain⟨bx,hbx⟩:∃bx,ZD (LV+1) PK=bx:=⟨_,rfl⟩;rw[hfv]at hcell hl1;rw[hfv,hnv,hbx]at hnx;rw[hnv];have HNX:=Qh hnx;have B2:=Qh (fun W=>Zal W (LV+1) PK hbx);obtain⟨cv,hcv⟩:∃cv,Za3 PK=cv:=⟨_,rfl⟩;rw[hcv]at hcb;have K1:=Qh (fun W=>ZnZ W PK hcv);have K2:=Qh (fun W=>Zhm W cv hcb);have qk:(PK != PK)=false:=by simp
      have d6:∀W,Upd No wr W→W.cell? ⟨y,6,none⟩=some (.int .i64 LV):=fun W u=>c6 W (hu.out.trans u)
      have hrr:Upd No wr wr:=Upd.refl _ _;clear hPK hge hfv hnv hbx hnx hcv hcb c6
      cases fv
      ·cases nv
       ·go_wp2_with fail
        refine(K1.out _).mono ?_;rintro e w8 ⟨rfl,rfl⟩
        go_wp2_with fail
        refine(K2.out _).mono ?_;rintro e w9 ⟨rfl,hu9⟩;go_wp2
        go_roundg (gk-1)
        case measure=>omega
        case rel=>exact⟨k+1,by omega,by have:=HP.out;simp;omega,by rw[HNX.out];simp,Qh (hu.out.trans hu9)⟩
       ·go_wp2_with fail
        refine(K1.out _).mono ?_;rintro e w8 ⟨rfl,rfl⟩
        go_wp2_with fail
        refine(K2.out _).mono ?_;rintro e w9 ⟨rfl,hu9⟩;go_wp2
        go_roundg (gk-1)
        case measure=>omega
        case rel=>exact⟨k+1,by omega,by have:=HP.out;simp;omega,by rw[HNX.out];simp,Qh (hu.out.trans hu9)⟩
      ·have B1:=Qh (fun W=>Zal W LV PK (hl1 rfl));clear hl1
       cases nv
       ·go_wp2_with fail
        refine(B1.out _).mono ?_;rintro e w8 ⟨rfl,rfl⟩
        go_wp2_with fail
        refine(K1.out _).mono ?_;rintro e w8 ⟨rfl,rfl⟩
        go_wp2_with fail
        refine(K2.out _).mono ?_;rintro e w9 ⟨rfl,hu9⟩
        go_wp2_with fail
        refine(B2.out _).mono ?_;rintro e w8 ⟨rfl,rfl⟩;go_wp2
        go_roundg (gk-1)
        case measure=>omega
        case rel=>exact⟨k+1,by omega,by have:=HP.out;simp;omega,by rw[HNX.out];simp,Qh (hu.out.trans hu9)⟩
       ·go_wp2_with fail
        refine(B1.out _).mono ?_;rintro e w8 ⟨rfl,rfl⟩
        go_wp2_with fail
        refine(K1.out _).mono ?_;rintro e w8 ⟨rfl,rfl⟩
        go_wp2_with fail
        refine(K2.out _).mono ?_;rintro e w9 ⟨rfl,hu9⟩;go_wp2
        go_roundg (gk-1)
        case measure=>omega
        case rel=>exact⟨k+1,by omega,by have:=HP.out;simp;omega,by rw[HNX.out];simp,Qh (hu.out.trans hu9)⟩
     ·obtain rfl:k=5:=by omega
      rw[HNEXT.out];have d6:=c6 _ hu.out;have hu':=hu.out;clear c6;rcases HRNG.out with rfl|rfl|rfl|rfl
      ·have W1:=Qh (fun W=>Zdz W 0 (show _=(⟨#[110,111,110,101]⟩:ByteArray) from rfl))
       go_wp2_with fail
       refine(W1.out _).mono ?_;rintro e w8 ⟨rfl,hu8⟩;go_wp2
       go_ret
       exact⟨rfl,U0.out.trans ((HUV.out.trans hu').trans hu8)⟩
      ·have W1:=Qh (fun W=>Zdz W 1 (show _=(⟨#[80,76,45,49]⟩:ByteArray) from rfl))
       go_wp2_with fail
       refine(W1.out _).mono ?_;rintro e w8 ⟨rfl,hu8⟩;go_wp2
       go_ret
       exact⟨rfl,U0.out.trans ((HUV.out.trans hu').trans hu8)⟩
      ·have W1:=Qh (fun W=>Zdz W 2 (show _=(⟨#[80,76,45,50]⟩:ByteArray) from rfl))
       go_wp2_with fail
       refine(W1.out _).mono ?_;rintro e w8 ⟨rfl,hu8⟩;go_wp2
       go_ret
       exact⟨rfl,U0.out.trans ((HUV.out.trans hu').trans hu8)⟩
      ·have W1:=Qh (fun W=>Zdz W 3 (show _=(⟨#[80,76,45,51]⟩:ByteArray) from rfl))
       go_wp2_with fail
       refine(W1.out _).mono ?_;rintro e w8 ⟨rfl,hu8⟩;go_wp2
       go_ret
       exact⟨rfl,U0.out.trans ((HUV.out.trans hu').trans hu8)⟩
end
end Go.Proofs.YtklmahmfmbppkaaGreat
