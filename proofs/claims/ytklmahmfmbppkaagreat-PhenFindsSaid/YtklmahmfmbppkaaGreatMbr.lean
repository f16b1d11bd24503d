/- Closed walks: the first of the shortest. -/
import Derived.Test.YtklmahmfmbppkaaGreatMaz
import Derived.Test.YtklmahmfmbppkaaGreatMbq
namespace Go.Proofs.YtklmahmfmbppkaaGreat
set_option linter.unusedSimpArgs false
set_option linter.unusedVariables false
open Go.RowKit
def ToldC (w:World) (d:List Edge) (e:Ending) (w':World):Prop:=
 ∃A c,e= .returned (.tuple #[.slice A d.length c,.int .i64 (if d.length=0 then 3 else 0)])∧w'.ownsRow w.heap.size 61 4 (.slice A d.length c) d.length (ZB d)∧Upd No w w'
set_option maxRecDepth 100000 in
set_option maxHeartbeats 8000000 in
theorem ZnP (F:Nat→Prop) (w:World) (A:Option Addr) (c:Nat) (l:List Edge) (mask must:Int) (hW:Walk F w A l) (hl:l.length≤2000):
  Calls Tryz.prog 21 #[.slice A l.length c,.int .i64 mask,.int .i64 must] w (ToldC w (ZcM l mask must)):=by
 obtain⟨ma,hma⟩:∃ma,bits .and .i64 mask 14=ma:=⟨_,rfl⟩
 obtain⟨mu,hmu⟩:∃mu,bits .and .i64 must 14=mu:=⟨_,rfl⟩
 obtain⟨wb,hwb⟩:∃wb,(w.alloc (.cells #[.int .i64 mask] 3)).setCell ⟨w.heap.size,0,none⟩ (.int .i64 ma)=wb:=⟨_,rfl⟩
 have u0:Upd No w wb:=by rw[←hwb];exact((Upd.refl No w).alloc _).then_ ((Upd.refl (One w.heap.size) _).setOne 0 _) (fun i e=> .inr (by unfold One at e;omega))
 have hsz:wb.heap.size=w.heap.size+1:=by rw[←hwb];simp
 have bM:Blk wb w.heap.size 3 [.int .i64 ma]:=by rw[←hwb];exact(Blk.new w 3 [.int .i64 mask]).set_ 0 (.int .i64 ma)
 have qT:∀(w:World) (a:Option Addr) (n c:Nat),(binOp .eql 67 (.slice a n c) (.slice none 0 0)).run Tryz.prog w= .ok (.bool a.isNone) w:=fun w a n c=>Lib.run_eql_slice_nil w _ _ a n c 0 0 Tryz.underlying67
 have hneed:(mu != 0)=Zat must:=by rw[←hmu];exact Znc must
 obtain⟨need,hnd⟩:∃need,Zat must=need:=⟨_,rfl⟩
 rw[hnd]at hneed
 obtain⟨D,hD⟩:∃D,Ze l mask=D:=⟨_,rfl⟩
 have hDl:D.length≤2000:=by rw[←hD];exact Nat.le_trans (List.length_filter_le _ _) hl
 have hgl:ZaA l ma=D:=by rw[←hma,Zns,hD]
 obtain⟨ids,hids⟩:∃ids,Zaq D=ids:=⟨_,rfl⟩
 obtain⟨keys,hkeys⟩:∃keys,ZaZ D=keys:=⟨_,rfl⟩
 have hsi:ids.Pairwise (·<·):=by rw[←hids];exact ZbS _
 have hsk:keys.Pairwise (·<·):=by rw[←hkeys];exact ZbS _
 have hil:ids.length≤4096:=by
  have h1:=ZeB (ZbC D)
  rw[Zgv]at h1
  have h2:(Zaq D).length≤2*D.length:=h1
  rw[hids]at h2
  omega
 have hkl:keys.length≤100000:=by
  have h1:=ZeB (D.map Edge.key)
  rw[List.length_map]at h1
  have h2:(ZaZ D).length≤D.length:=h1
  rw[hkeys]at h2
  omega
 have hne:D≠[]→ids≠[]∧keys≠[]:=by
  intro h
  obtain⟨e,m,rfl⟩:=List.exists_cons_of_ne_nil h
  have h1:=(Zgw (D:=e::m) (e:=e) List.mem_cons_self).1
  have h2:=Zfp (D:=e::m) (e:=e) List.mem_cons_self
  rw[hids]at h1
  rw[hkeys]at h2
  exact⟨fun e2=>(by rw[e2]at h1;cases h1),fun e2=>(by rw[e2]at h2;cases h2)⟩
 obtain⟨q,hq⟩:∃q,ZbZ ids keys ids.length [] D=q:=⟨_,rfl⟩
 obtain⟨ks,hks⟩:∃ks:Int→Int,ks=fun i=>if 0≤i∧i<(ids.length:Int) then Z1 (ofA ma q) mu i (ZU ids.length q ma i) (Zp ids.length q ma mu i) need else 0:=⟨_,rfl⟩
 obtain⟨wf,hwf⟩:∃wf:Int→List HArc,wf=fun i=>ZC (ofA ma q) mu i (ZU ids.length q ma i) (Zp ids.length q ma mu i) (ks i).toNat i need:=⟨_,rfl⟩
 have hks1:∀i:Int,0≤i→i<(ids.length:Int)→ks i=Z1 (ofA ma q) mu i (ZU ids.length q ma i) (Zp ids.length q ma mu i) need:=fun i h0 h1=>by rw[hks];exact if_pos ⟨h0,h1⟩
 have hwf1:∀i:Int,wf i=ZC (ofA ma q) mu i (ZU ids.length q ma i) (Zp ids.length q ma mu i) (ks i).toNat i need:=fun i=>by rw[hwf]
 have hway:ZW q→ZcM l mask must=(ZH ks wf ids.length).map (ZcB ids keys)∧∀a∈ZH ks wf ids.length,Zi ids.length a=true∧a.label<(keys.length:Int):=fun hs=>
  ZpT (by omega) ids keys (by rw[hD,hids]) (by rw[hD,hkeys]) (by rw[hD,hq]) hs ks wf (by rw[hma,hmu,hnd];exact hks1) (fun i h0 h1=>by rw[hks];exact if_neg (fun e=>by omega)) (fun i h1=>by rw[hks];exact if_neg (fun e=>by omega)) (by rw[hma,hmu,hnd];exact fun i _ _=>hwf1 i)
 obtain⟨doc,hdoc⟩:∃doc,ZcM l mask must=doc:=⟨_,rfl⟩
 rw[hdoc]at hway ⊢
 have HCl:=Lib.hid (Zrv F wb A c l (hW.upd u0 (fun _ _=>id)) (by omega))
 have m0:∀W,Upd No wb W→W.cell? ⟨w.heap.size,0,none⟩=some (.int .i64 ma):=fun W u=>by have:=(bM.upd u id).cell 0;simpa using this
 have HDel:=Lib.hid (fun(W:World) (A:Option Addr) (c:Nat) (u:Upd No wb W) (ho:W.ownsRow wb.heap.size 61 4 (.slice A l.length c) l.length (ZB l))=>hgl▸Zsj W wb.heap.size A c l ⟨w.heap.size,0,none⟩ ma ho (by omega) (m0 W u) (by show w.heap.size<wb.heap.size;omega))
 have HNm:=Lib.hid (fun(W:World) (A:Option Addr) (c:Nat) (h:Walk (fun i=>wb.heap.size≤i) W A D)=>hkeys▸hids▸Zrr _ W A c D h (by omega))
 have HGr:=Lib.hid (fun(W:World) (A:Option Addr) (c:Nat) (F0 F1 F2:Nat→Prop) (h:Walk F0 W A D) (A1 A2:Option Addr) (c1 c2:Nat) (hA:Ints F1 W A1 ids) (hB:Ints F2 W A2 keys)=>hq▸Zrt F0 F1 F2 W A c D h A1 A2 c1 c2 ids keys hA hB hsi hsk hne (by omega) hil hkl)
 have HWAY:=Lib.hid hway
 have HKS1:=Lib.hid hks1
 have HWF1:=Lib.hid hwf1
 have U0:=Lib.hid u0
 have hrr:Upd No wb wb:=Upd.refl _ _
 clear hW u0 bM hway hks1 hwf1 hks hwf hgl hD hids hkeys hsi hsk hne hq hnd hdoc
 go_enter Tryz.func21,Tryz.ntmps21
 go_wp2_with fail
 refine(HCl.out).mono ?_
 rintro e w1 ⟨A1,c1,rfl,ho1,hu1⟩
 have hu1':Upd No wb w1:=hu1
 go_wp2_with fail
 refine(HDel.out w1 A1 c1 hu1' ho1).mono ?_
 rintro e w2 ⟨rfl,hw2,hu2⟩
 have HU2:=Lib.hid (hu1.then_ hu2 (fun i e=> .inr (ho1.lt i e).1))
 have HW2:=Lib.hid hw2
 clear hu1 hu1' hu2 ho1 hw2 hwb hma hmu HCl HDel
 go_wp2_with fail
 refine(HNm.out w2 A1 c1 HW2.out).mono ?_
 rintro e w3 ⟨I1,d1,I2,d2,rfl,hi1,hi2,hu3⟩
 have hu23:=HU2.out.trans hu3
 obtain⟨w4,hw4⟩:∃w4,w3.alloc (.cells #[.slice I1 ids.length d1,.slice I2 keys.length d2] 98)=w4:=⟨_,rfl⟩
 have u4:Upd No w3 w4:=by rw[←hw4];exact(Upd.refl No w3).alloc _
 have bN:Blk w4 w3.heap.size 98 [.slice I1 ids.length d1,.slice I2 keys.length d2]:=by rw[←hw4];exact Blk.new w3 _ _
 have s0:=bN.cell 0
 have s1:=bN.cell 1
 simp only[List.getElem?_cons_zero,List.getElem?_cons_succ]at s0 s1
 have HI1:=Lib.hid (hi1.upd u4 (fun _ _=>id))
 have HI2:=Lib.hid (hi2.upd u4 (fun _ _=>id))
 have HG4:=Lib.hid (HGr.out w4 A1 c1 _ _ _ (Recs.upd HW2.out (hu3.trans u4) (fun _ _=>id)) I1 I2 d1 d2 HI1.out HI2.out)
 have HU4:=Lib.hid (hu23.trans u4)
 have BN:=Lib.hid bN
 clear hi1 hi2 hu3 hu23 u4 bN HNm HGr HU2 HW2
 go_wp2_with fail
 refine(HG4.out).mono ?_
 rintro e w5 ⟨G,g,K,rfl,hK,hdg,hu5⟩
 have HU5:=Lib.hid (HU4.out.trans hu5)
 have HDG:=Lib.hid hdg
 have hr:=hdg.right
 have hso:=hdg.sorted
 have HR:=Lib.hid hr
 have HSO:=Lib.hid hso
 have HWY:=Lib.hid (HWAY.out hso)
 have M0:∀W,Upd No w5 W→W.cell? ⟨w.heap.size,0,none⟩=some (.int .i64 ma):=fun W u=>m0 W (HU5.out.trans u)
 have N0:∀W,Upd No w5 W→W.cell? ⟨w3.heap.size,0,none⟩=some (.slice I1 ids.length d1):=fun W u=>by have:=(BN.out.upd (hu5.trans u) id).cell 0;simpa using this
 have N1:∀W,Upd No w5 W→W.cell? ⟨w3.heap.size,1,none⟩=some (.slice I2 keys.length d2):=fun W u=>by have:=(BN.out.upd (hu5.trans u) id).cell 1;simpa using this
 have HEd:=Lib.hid (fun(W:World) (u:Upd No w5 W) (a:HArc) (ha:Zi ids.length a=true∧a.label<(keys.length:Int))=>(by
  have h:=(ZF _ _).1 ha.1
  exact Zru _ _ W I1 I2 d1 d2 ids keys (HI1.out.upd (hu5.trans u) (fun _ _=>id)) (HI2.out.upd (hu5.trans u) (fun _ _=>id)) a h.1 h.2.1 h.2.2.1 h.2.2.2.1 h.2.2.2.2.2.2.1 ha.2:Calls Tryz.prog 67 #[.agg #[.slice I1 ids.length d1,.slice I2 keys.length d2],.agg a.cells.toArray] W fun e w'=>e= .returned (.agg (ZcB ids keys a).cells.toArray)∧Upd No W w'))
 have HAt:=Lib.hid (fun(W:World) (u:Upd No w5 W) (i:Int)=>ZsP W G (some ⟨g,0,none⟩) ids.length K q (hdg.no u) (by omega) ma mu i)
 have HSh:=Lib.hid (fun(W:World) (u:Upd No w5 W) (B C:Option Addr) (n:Nat) (hn:n<ids.length) (h:LoopI W B C ids.length (ZU ids.length q ma n) (Zp ids.length q ma mu n))=>ZnM W G (some ⟨g,0,none⟩) B C ids.length K q (hdg.no u) (by omega) ma mu _ _ h (Zk0 (by omega) hr ma mu (n:Int) (by omega) (by omega)) (n:Int) need)
 have HWk:=Lib.hid (fun(W:World) (u:Upd No w5 W) (B C:Option Addr) (n m:Nat) (hn:n<ids.length) (hm:m≤1000000) (h:LoopI W B C ids.length (ZU ids.length q ma n) (Zp ids.length q ma mu n))=>Zsg W G (some ⟨g,0,none⟩) B C ids.length K q (hdg.no u) (by omega) ma mu _ _ h (Zk0 (by omega) hr ma mu (n:Int) (by omega) (by omega)) (n:Int) m hm need)
 have hr5:Upd No w5 w5:=Upd.refl _ _
 clear hdg hu5 hr hso hw4 s0 s1 HI1 HI2 BN m0 HG4 HU4 hrr
 go_wp2
 go_loopg [11,40] ids.length (fun gk way i wr=>∃(n:Nat) (A5:Option Addr) (c5:Nat) (ws:List HArc),n+gk=ids.length∧i= .int .i64 n∧way= .slice A5 ws.length c5∧Hid (ZH ks wf n=ws)∧Hid (A5=none↔ws=[])∧Hid (ws.length≤1000000)∧
  wr.ownsRow w5.heap.size 70 4 (.slice A5 ws.length c5) ws.length (ZaC ws)∧Upd No w5 wr)
 case atStart=>exact⟨0,none,0,[],by omega,rfl,rfl,Lib.hid rfl,Lib.hid ⟨fun _=>rfl,fun _=>rfl⟩,Lib.hid (by simp),World.ownsRow_nil _ _ _ _,Upd.refl _ _⟩
 case round=>
  obtain⟨n,A5,c5,ws,hgk,rfl,rfl,HWS,HIF,HWN,hown,hu⟩:=hrel
  have i1:(0:Int)≤(n:Int):=Int.natCast_nonneg _
  by_cases hlt:n<ids.length
  ·have i2:(n:Int)<(ids.length:Int):=by omega
   obtain⟨kk,hkk⟩:∃kk,Z1 (ofA ma q) mu (n:Int) (ZU ids.length q ma (n:Int)) (Zp ids.length q ma mu (n:Int)) need=kk:=⟨_,rfl⟩
   obtain⟨wk,hwk⟩:∃wk,ZC (ofA ma q) mu (n:Int) (ZU ids.length q ma (n:Int)) (Zp ids.length q ma mu (n:Int)) kk.toNat (n:Int) need=wk:=⟨_,rfl⟩
   have HKS:=Lib.hid (show ks (n:Int)=kk by rw[HKS1.out _ i1 i2,hkk])
   have HWF:=Lib.hid (show wf (n:Int)=wk by rw[HWF1.out,HKS.out,hwk])
   have hkb:0≤kk∧kk≤1000000:=by rw[←hkk];exact Zoh (by omega) HR.out ma mu need i1 i2
   have HWL:=Lib.hid (fun(h:0<kk)=>(by rw[←hwk,←hkk];exact Zn8 HR.out HSO.out ma mu need i1 i2 (by rw[hkk];exact h):(wk.length:Int)=kk))
   have HSX:=Lib.hid (fun(W:World) (u:Upd No w5 W) (B C:Option Addr) (h:LoopI W B C ids.length (ZU ids.length q ma n) (Zp ids.length q ma mu n))=>hkk▸HSh.out W u B C n hlt h)
   have HWX:=Lib.hid (fun(W:World) (u:Upd No w5 W) (B C:Option Addr) (h:LoopI W B C ids.length (ZU ids.length q ma n) (Zp ids.length q ma mu n))=>(by
    have h2:=HWk.out W u B C n kk.toNat hlt (by omega) h
    rw[Int.toNat_of_nonneg hkb.1,hwk]at h2
    exact h2:Calls Tryz.prog 66 #[.agg #[.pointer (some ⟨g,0,none⟩),.int .i64 ma,.int .i64 mu,.slice B ids.length ids.length,.slice C ids.length ids.length],.int .i64 n,.int .i64 kk,.bool need] W (Zkx W wk)))
   have HA6:=Lib.hid (HAt.out wr hu (n:Int))
   have HKB:=Lib.hid hkb
   clear hkk hwk hkb
   go_wp2_with fail
   refine(HA6.out).mono ?_
   rintro e w6 ⟨B,C,rfl,hli,hu6⟩
   obtain⟨wl,hwl⟩:∃wl,w6.alloc (.cells #[.pointer (some ⟨g,0,none⟩),.int .i64 ma,.int .i64 mu,.slice B ids.length ids.length,.slice C ids.length ids.length] 103)=wl:=⟨_,rfl⟩
   have ul:Upd No w6 wl:=by rw[←hwl];exact(Upd.refl No w6).alloc _
   have bL:Blk wl w6.heap.size 103 [.pointer (some ⟨g,0,none⟩),.int .i64 ma,.int .i64 mu,.slice B ids.length ids.length,.slice C ids.length ids.length]:=by rw[←hwl];exact Blk.new w6 _ _
   have l0:∀W,Upd No wl W→W.cell? ⟨w6.heap.size,0,none⟩=some (.pointer (some ⟨g,0,none⟩)):=fun W u=>by have:=(bL.upd u id).cell 0;simpa using this
   have l1:∀W,Upd No wl W→W.cell? ⟨w6.heap.size,1,none⟩=some (.int .i64 ma):=fun W u=>by have:=(bL.upd u id).cell 1;simpa using this
   have l2:∀W,Upd No wl W→W.cell? ⟨w6.heap.size,2,none⟩=some (.int .i64 mu):=fun W u=>by have:=(bL.upd u id).cell 2;simpa using this
   have l3:∀W,Upd No wl W→W.cell? ⟨w6.heap.size,3,none⟩=some (.slice B ids.length ids.length):=fun W u=>by have:=(bL.upd u id).cell 3;simpa using this
   have l4:∀W,Upd No wl W→W.cell? ⟨w6.heap.size,4,none⟩=some (.slice C ids.length ids.length):=fun W u=>by have:=(bL.upd u id).cell 4;simpa using this
   have hlr:Upd No wl wl:=Upd.refl _ _
   have HLI:=Lib.hid (hli.upd ul)
   have HUL0:=Lib.hid ((hu.trans hu6).trans ul)
   have HS8:=Lib.hid (HSX.out wl HUL0.out B C HLI.out)
   have HCW:=Lib.hid (fun(W:World) (u:Upd No wl W)=>HWX.out W (HUL0.out.trans u) B C (HLI.out.upd u))
   have HOW:=Lib.hid (Za hown ((hu6.trans ul)) (fun _ _=>id))
   clear hli hu6 ul bL HA6 HSX HWX hown
   go_wp2_with fail
   refine(HS8.out).mono ?_
   rintro e w8 ⟨rfl,hu8⟩
   have HUL:=Lib.hid (HUL0.out.trans hu8)
   have HOW8:=Lib.hid (Za HOW.out hu8 (fun _ _=>id))
   clear HS8 HOW hwl
   by_cases h0:0<kk
   ·have d0:decide (0<kk)=true:=decide_eq_true h0
    by_cases hA:A5=none
    ·subst hA
     have HZ:=Lib.hid (HIF.out.1 rfl)
     have HWK:=Lib.hid (HCW.out w8 hu8)
     go_wp2_with fail
     refine(HWK.out).mono ?_
     rintro e w9 ⟨A9,c9,rfl,ho9,hu9⟩
     have hl9:(0:Int)<(wk.length:Int):=by have:=HWL.out h0;omega
     have hA9:¬A9=none:=fun e=>by
      subst e
      rcases ho9.2 with ⟨_,h0⟩|⟨g9,_,_,h0,_⟩
      ·omega
      ·cases h0
     have HO9:=Lib.hid (Z9 ho9 (show w5.heap.size≤w8.heap.size from HUL.out.size))
     have HU9:=Lib.hid (HUL.out.trans hu9)
     have HB9:=Lib.hid (show ZH ks wf (n+1)=wk by
      show(if (decide (0<ks (n:Int))&&(ZH ks wf n==[]||decide (ks (n:Int)<((ZH ks wf n).length:Int))))=true then wf (n:Int) else ZH ks wf n)=_
      rw[HWS.out,HKS.out,HWF.out]
      exact if_pos (by rw[decide_eq_true h0,HZ.out];rfl))
     have HI9:=Lib.hid (show A9=none↔wk=[] from⟨fun e=>absurd e hA9,fun e=>by rw[e]at hl9;simp at hl9⟩)
     clear ho9 hu9 hl9 hA9
     go_wp2
     go_roundg (gk-1)
     case measure=>omega
     case rel=>exact⟨n+1,A9,c9,wk,by omega,by go_num,rfl,HB9,HI9,Lib.hid (by have:=HWL.out h0;have:=HKB.out.2;omega),HO9.out,HU9.out⟩
    ·have hAs:A5.isNone=false:=by cases A5 with|none=>exact absurd rfl hA|some _=>rfl
     by_cases hk:kk<(ws.length:Int)
     ·have d1:decide (kk<(ws.length:Int))=true:=decide_eq_true hk
      have HWK:=Lib.hid (HCW.out w8 hu8)
      go_wp2_with fail
      refine(HWK.out).mono ?_
      rintro e w9 ⟨A9,c9,rfl,ho9,hu9⟩
      have hl9:(0:Int)<(wk.length:Int):=by have:=HWL.out h0;omega
      have hA9:¬A9=none:=fun e=>by
       subst e
       rcases ho9.2 with ⟨_,h0⟩|⟨g9,_,_,h0,_⟩
       ·omega
       ·cases h0
      have HO9:=Lib.hid (Z9 ho9 (show w5.heap.size≤w8.heap.size from HUL.out.size))
      have HU9:=Lib.hid (HUL.out.trans hu9)
      have HB9:=Lib.hid (show ZH ks wf (n+1)=wk by
       show(if (decide (0<ks (n:Int))&&(ZH ks wf n==[]||decide (ks (n:Int)<((ZH ks wf n).length:Int))))=true then wf (n:Int) else ZH ks wf n)=_
       rw[HWS.out,HKS.out,HWF.out]
       exact if_pos (by rw[decide_eq_true h0,decide_eq_true hk];simp))
      have HI9:=Lib.hid (show A9=none↔wk=[] from⟨fun e=>absurd e hA9,fun e=>by rw[e]at hl9;simp at hl9⟩)
      clear ho9 hu9 hl9 hA9
      go_wp2
      go_roundg (gk-1)
      case measure=>omega
      case rel=>exact⟨n+1,A9,c9,wk,by omega,by go_num,rfl,HB9,HI9,Lib.hid (by have:=HWL.out h0;have:=HKB.out.2;omega),HO9.out,HU9.out⟩
     ·have d1:decide (kk<(ws.length:Int))=false:=decide_eq_false hk
      have HB9:=Lib.hid (show ZH ks wf (n+1)=ws by
       show(if (decide (0<ks (n:Int))&&(ZH ks wf n==[]||decide (ks (n:Int)<((ZH ks wf n).length:Int))))=true then wf (n:Int) else ZH ks wf n)=_
       rw[HWS.out,HKS.out,d0,d1]
       have hw0:¬ws=[]:=fun e=>hA (HIF.out.2 e)
       rw[if_neg (by simpa using hw0)])
      go_wp2
      go_roundg (gk-1)
      case measure=>omega
      case rel=>exact⟨n+1,A5,c5,ws,by omega,by go_num,rfl,HB9,HIF,HWN,HOW8.out,HUL.out⟩
   ·have d0:decide (0<kk)=false:=decide_eq_false h0
    have HB9:=Lib.hid (show ZH ks wf (n+1)=ws by
     show(if (decide (0<ks (n:Int))&&(ZH ks wf n==[]||decide (ks (n:Int)<((ZH ks wf n).length:Int))))=true then wf (n:Int) else ZH ks wf n)=_
     rw[HWS.out,HKS.out,d0]
     exact if_neg (by simp))
    go_wp2
    go_roundg (gk-1)
    case measure=>omega
    case rel=>exact⟨n+1,A5,c5,ws,by omega,by go_num,rfl,HB9,HIF,HWN,HOW8.out,HUL.out⟩
  ·obtain rfl:n=ids.length:=by omega
   have hdoc:doc=ws.map (ZcB ids keys):=by rw[HWY.out.1,HWS.out]
   have hgood:∀a∈ws,Zi ids.length a=true∧a.label<(keys.length:Int):=by have:=HWY.out.2;rw[HWS.out]at this;exact this
   have HDoc:=Lib.hid hdoc
   have HGd:=Lib.hid hgood
   have hszw:w.heap.size≤w5.heap.size:=(U0.out.trans HU5.out).size
   clear hdoc hgood HWS HAt HSh HWk HWY HWAY HKS1 HWF1
   by_cases hA:A5=none
   ·subst hA
    have hw0:=HIF.out.1 rfl
    have HD0:=Lib.hid (show doc=[] by rw[HDoc.out,hw0];rfl)
    go_wp2
    go_ret2
    rw[HD0.out]
    exact⟨none,0,rfl,World.ownsRow_nil _ _ _ _,(U0.out.trans HU5.out).trans hu⟩
   ·have hAs:A5.isNone=false:=by cases A5 with|none=>exact absurd rfl hA|some _=>rfl
    have hw0:¬ws=[]:=fun e=>hA (HIF.out.2 e)
    obtain⟨wo,hwo⟩:∃wo,wo=wr:=⟨_,rfl⟩
    subst hwo
    have HY:=Lib.hid (Zd0 hown)
    have HDL:=Lib.hid (show doc.length=ws.length by rw[HDoc.out,List.length_map])
    have HW0:=Lib.hid hw0
    have HUO:=Lib.hid hu
    clear hown hgk hA hw0
    go_wp2
    go_loopg [15,76] ws.length (fun gk out i wr=>∃(k:Nat) (A6:Option Addr) (c6:Nat) (xs:List Edge),k+gk=ws.length∧i= .int .i64 k∧out= .slice A6 xs.length c6∧Hid (xs++(ws.drop k).map (ZcB ids keys)=doc)∧Hid (xs.length=k)∧
     wr.ownsRow wo.heap.size 61 4 (.slice A6 xs.length c6) xs.length (ZB xs)∧Upd No wo wr)
    case atStart=>exact⟨0,none,0,[],by omega,rfl,rfl,Lib.hid (by rw[HDoc.out];rfl),Lib.hid rfl,World.ownsRow_nil _ _ _ _,Upd.refl _ _⟩
    case round=>
     obtain⟨k,A6,c6,xs,hgk,rfl,rfl,hxs,HXL,hown,hu2⟩:=hrel
     by_cases hlt:k<ws.length
     ·obtain⟨ax,rfl,q0,q1,q2,q3⟩:=(HY.out.upd hu2 (fun _ _=>id)).at_ hlt
      obtain⟨x,hxx⟩:∃x,ws[k]=x:=⟨_,rfl⟩
      have hdr:=List.drop_eq_getElem_cons hlt
      have hgx:=HGd.out _ (List.getElem_mem hlt)
      rw[hxx]at q0 q1 q2 q3 hdr hgx
      have HX:=Lib.hid (show(xs++[ZcB ids keys x])++(ws.drop (k+1)).map (ZcB ids keys)=doc by rw[←hxs.out,hdr];simp)
      have i1:(0:Int)≤(k:Int):=Int.natCast_nonneg _
      have i2:(k:Int)<(ws.length:Int):=by omega
      obtain⟨wx,hwx⟩:∃wx,wr.alloc (.cells #[.int .i64 x.f,.int .i64 x.t,.int .i64 x.kind,.int .i64 x.label] 70)=wx:=⟨_,rfl⟩
      have ux:Upd No wr wx:=by rw[←hwx];exact(Upd.refl No wr).alloc _
      have bo:Blk wx wr.heap.size 70 [.int .i64 x.f,.int .i64 x.t,.int .i64 x.kind,.int .i64 x.label]:=by rw[←hwx];exact Blk.new wr _ _
      have huw:Upd No w5 wx:=HUO.out.trans (hu2.trans ux)
      have g0:=bo.cell 0
      have g1:=bo.cell 1
      have g2:=bo.cell 2
      have g3:=bo.cell 3
      simp only[List.getElem?_cons_zero,List.getElem?_cons_succ]at g0 g1 g2 g3
      have HC:=Lib.hid (HEd.out wx huw x hgx)
      have HO:=Lib.hid (Za hown ux (fun _ _=>id))
      have HUX:=Lib.hid (hu2.trans ux)
      have hws:ws.length≤1000000:=HWN.out
      generalize ZcB ids keys x=y at HC HX
      unfold HArc.cells Edge.cells at HC
      clear hdr hxx hgx ux bo hown hxs
      go_wp2_with fail
      refine(HC.out).mono ?_
      rintro e w7 ⟨rfl,hu7⟩
      have hown7:=Za HO.out hu7 (fun _ _=>id)
      have HU7:=Lib.hid (HUX.out.trans hu7)
      have hz7:=(HUX.out.trans hu7).size
      have HGE:=Lib.hid (fun i e=>(hown7.lt i e).1)
      have HL:=Lib.hid (Za2 xs)
      clear hu7 HC HO
      go_wp2_with (at_builtin;refine Zbw rfl rfl Zbj (v:= .slice A6 xs.length c6) (n:=xs.length) (xs:=ZB xs) (cells:=[.int .i64 y.f,.int .i64 y.t,.int .i64 y.k,.int .i64 y.key]) (by rfl) rfl hown7 rfl rfl (by have:=HXL.out;omega) (by have:=HXL.out;omega) (by omega) ?_;intro g8 c8 w8 hown8 hu8 hg8 hlt8)
      go_roundg (gk-1)
      case measure=>omega
      case rel=>exact⟨k+1,some ⟨g8,0,none⟩,c8,xs++[y],by omega,by go_num,by simp,HX,Lib.hid (by rw[List.length_append,HXL.out];rfl),by simpa[ZB,Edge.cells]using hown8,HU7.out.then_ hu8 fun i e=> .inr (HGE.out i e)⟩
     ·obtain rfl:k=ws.length:=by omega
      have hxd:xs=doc:=by have:=hxs.out;rw[List.drop_length]at this;simpa using this
      have hl0:¬doc.length=0:=by rw[HDL.out];exact fun e=>HW0.out (List.eq_nil_of_length_eq_zero e)
      have HXD:=Lib.hid hxd
      have HL0:=Lib.hid hl0
      clear hxd hl0 hxs
      go_wp2
      go_ret2
      refine⟨A6,c6,?_,?_,(U0.out.trans HU5.out).trans (HUO.out.trans hu2)⟩
      ·rw[if_neg HL0.out,←HXD.out];rfl
      ·rw[←HXD.out];exact Z9 hown (Nat.le_trans hszw HUO.out.size)
end Go.Proofs.YtklmahmfmbppkaaGreat
/- Closed walks:the answers that the document gives. -/
namespace Go.Proofs.YtklmahmfmbppkaaGreat
set_option linter.unusedSimpArgs false
set_option linter.unusedVariables false
open Go.RowKit
def ea:Edge:=⟨1,2,1,5⟩
def eb:Edge:=⟨2,1,3,5⟩
section
variable {F:Nat→Prop} {w:World} {A:Option Addr} {c:Nat} {l d:List Edge} {mask must:Int}
end
end Go.Proofs.YtklmahmfmbppkaaGreat
/- Closed walks,the document's:the ids from which so many steps lead to one. -/
namespace Go.Proofs.YtklmahmfmbppkaaGreat
set_option linter.unusedSimpArgs false
set_option linter.unusedVariables false
open Go.RowKit
def RowOk (F:Nat→Prop) (w:World) (v:Value) (l:List Int):Prop:=∃B c,v= .slice B l.length c∧Ints F w B l
theorem RowOk.upd {F S:Nat→Prop} {w w':World} {v:Value} {l:List Int} (h:RowOk F w v l) (u:Upd S w w') (hn:∀i,F i→¬S i):RowOk F w' v l:=by
 obtain⟨B,c,e,h⟩:=h
 exact⟨B,c,e,h.upd u hn⟩
theorem RowOk.weak {F G:Nat→Prop} {w:World} {v:Value} {l:List Int} (h:RowOk F w v l) (hg:∀i,i<w.heap.size→F i→G i):RowOk G w v l:=by
 obtain⟨B,c,e,h⟩:=h
 exact⟨B,c,e,h.weak hg⟩
structure RowsOk (F:Nat→Prop) (w:World) (vs:List Value) (f:Nat→List Int):Prop where
 ok:∀(j:Nat) (h:j<vs.length),RowOk F w vs[j] (f j)
theorem RowsOk.upd {F S:Nat→Prop} {w w':World} {vs:List Value} {f:Nat→List Int} (h:RowsOk F w vs f) (u:Upd S w w') (hn:∀i,F i→¬S i):RowsOk F w' vs f:=⟨fun j hj=>(h.ok j hj).upd u hn⟩
theorem RowsOk.weak {F G:Nat→Prop} {w:World} {vs:List Value} {f:Nat→List Int} (h:RowsOk F w vs f) (hg:∀i,i<w.heap.size→F i→G i):RowsOk G w vs f:=⟨fun j hj=>(h.ok j hj).weak hg⟩
structure RowsAt (w:World) (A:Option Addr) (n:Nat) (f:Nat→List Int):Prop where
 at_:∀j,j<n→∃ad B c,A=some ad∧w.cell? (ad.add j)=some (.slice B (f j).length c)∧Ints (fun _=>True) w B (f j)
theorem RowsAt.upd {w w':World} {A:Option Addr} {n:Nat} {f:Nat→List Int} (h:RowsAt w A n f) (u:Upd No w w'):RowsAt w' A n f:=⟨fun j hj=>by
 obtain⟨ad,B,c,e,h1,h2⟩:=h.at_ j hj
 exact⟨ad,B,c,e,u.keepNo h1,h2.upd u (fun _ _=>id)⟩⟩
end Go.Proofs.YtklmahmfmbppkaaGreat
/- Orders:the heap in memory,and what its methods do. -/
namespace Go.Proofs.YtklmahmfmbppkaaGreat
set_option linter.unusedSimpArgs false
set_option linter.unusedVariables false
open Go.RowKit
/-! what an interface's method is -/
theorem ZoS (a:Addr) (w:World) (A:Option Addr) (n c:Nat) (h:w.cell? a=some (.slice A n c)):(loadVar 82 a).run Tryz.prog w= .ok (.slice A n c) w:=by
 simp[loadVar,Tryz.sizeOf82,h,go_sem]
theorem Zpy (f:Nat) (name:String) (hf:(((Tryz.prog.info? 84).getD default).methods.find? (·.name==name)).map (fun m=>(m.path.isEmpty,m.func))=some (true,some (f,false)))
  (hp:(((Tryz.prog.info? 84).getD default).methods.find? (·.name==name)).map (fun m=>m.path.toList.length)=some 0)
  (a:Addr) (A:Option Addr) (n c:Nat) (w:World) (h:w.cell? a=some (.slice A n c)):(method 396 84 (.pointer (some a)) name).run Tryz.prog w= .ok (f,.slice A n c) w:=by
 have hi:(typeInfo 84).run Tryz.prog w= .ok ((Tryz.prog.info? 84).getD default) w:=by kernel_rfl
 have hu:∀w,(underlying 84).run Tryz.prog w= .ok (TypeDesc.pointer 82) w:=fun w=>by kernel_rfl
 have hw:∀(s:String) w,(Builtin.ssaWrapNilChk_ #[84] 84 #[.pointer (some a),strVal "",strVal s]).run Tryz.prog w= .ok (.pointer (some a)) w:=fun s w=>rfl
 cases hm:((Tryz.prog.info? 84).getD default).methods.find? (·.name==name)with
 |none=>rw[hm]at hf;cases hf
 |some m=>
  rw[hm]at hf hp
  have hpp:m.path.toList=[]:=List.eq_nil_of_length_eq_zero (by simpa using hp)
  simp only[Option.map_some,Option.some.injEq,Prod.mk.injEq]at hf
  unfold method
  simp only[Sem.run_bind,hi,Result.andThen_ok,hm,hpp,hf.1,hf.2]
  simp[follow,receiverAt,hu,Place.get,hw,asAddr,ZoS a w A n c h]
theorem Zrc (a:Addr) (A:Option Addr) (n c:Nat) (w:World) (h:w.cell? a=some (.slice A n c)):(method 396 84 (.pointer (some a)) "Less").run Tryz.prog w= .ok (249,.slice A n c) w:=Zpy 249 "Less" (by kernel_rfl) (by kernel_rfl) a A n c w h
theorem Zrb (a:Addr) (A:Option Addr) (n c:Nat) (w:World) (h:w.cell? a=some (.slice A n c)):(method 396 84 (.pointer (some a)) "Swap").run Tryz.prog w= .ok (250,.slice A n c) w:=Zpy 250 "Swap" (by kernel_rfl) (by kernel_rfl) a A n c w h
/-! the methods themselves -/
set_option maxRecDepth 100000 in
theorem ZqX (F:Nat→Prop) (w:World) (A:Option Addr) (c:Nat) (xs:List Int) (i j:Nat) (h:Ints F w A xs) (hi:i<xs.length) (hj:j<xs.length) (hl:xs.length≤1000000):
  Calls Tryz.prog 249 #[.slice A xs.length c,.int .i64 (i:Int),.int .i64 (j:Int)] w fun e w'=>e= .returned (.bool (decide (xs[i]<xs[j])))∧Upd No w w':=by
 obtain⟨ad,rfl,_,_,c0⟩:=h.at_ hi
 obtain⟨ad',e',_,_,c1⟩:=h.at_ hj
 cases e'
 have i1:(0:Int)≤(i:Int):=Int.natCast_nonneg _
 have i2:(i:Int)<(xs.length:Int):=by omega
 have j1:(0:Int)≤(j:Int):=Int.natCast_nonneg _
 have j2:(j:Int)<(xs.length:Int):=by omega
 obtain⟨x,hx⟩:∃x,xs[i]=x:=⟨_,rfl⟩
 obtain⟨y,hy⟩:∃y,xs[j]=y:=⟨_,rfl⟩
 rw[hx]at c0 ⊢
 rw[hy]at c1 ⊢
 clear hx hy h
 go_enter Tryz.func249,Tryz.ntmps249
 go_wp2
 go_quiet (fail)
 go_wp2
 go_ret
 exact⟨rfl,(Upd.refl _ _).drewN _⟩
def ZbF (xs:List Int) (i j:Nat):List Int:=(xs.set i (xs.getD j 0)).set j (xs.getD i 0)
theorem ZdN (xs:List Int) (i j:Nat):(ZbF xs i j).length=xs.length:=by unfold ZbF;rw[List.length_set,List.length_set]
theorem Zjt {cur:List Value} {xs:List Int} {i j:Nat} {x y:Int} (h:cur.take xs.length=xs.map (Value.int .i64)):((cur.set i (.int .i64 y)).set j (.int .i64 x)).take (xs.length*1)=((xs.set i y).set j x).map (Value.int .i64):=by
 rw[Nat.mul_one,List.take_set,List.take_set,h,List.map_set,List.map_set]
set_option maxRecDepth 100000 in
set_option maxHeartbeats 2000000 in
theorem ZqW (w:World) (base:Nat) (A:Option Addr) (c:Nat) (xs:List Int) (i j:Nat) (h:w.ownsRow base 3 1 (.slice A xs.length c) xs.length (xs.map (Value.int .i64))) (hi:i<xs.length) (hj:j<xs.length) (hl:xs.length≤1000000):
  Calls Tryz.prog 250 #[.slice A xs.length c,.int .i64 (i:Int),.int .i64 (j:Int)] w fun e w'=>e= .returned (.tuple #[])∧w'.ownsRow base 3 1 (.slice A xs.length c) xs.length ((ZbF xs i j).map (Value.int .i64))∧Upd (Own (.slice A xs.length c)) w w':=by
 obtain⟨g,cur,rfl,hgb,hB,hnc,hcl,hct,hcm⟩:=Zbz h (by omega)
 have i1:(0:Int)≤(i:Int):=Int.natCast_nonneg _
 have i2:(i:Int)<(xs.length:Int):=by omega
 have j1:(0:Int)≤(j:Int):=Int.natCast_nonneg _
 have j2:(j:Int)<(xs.length:Int):=by omega
 have hcur:∀k,k<xs.length→cur[k]? =some (.int .i64 (xs.getD k 0)):=fun k hk=>by
  have h1:(cur.take (xs.length*1))[k]? =some (.int .i64 (xs.getD k 0)):=by
   rw[hct,List.getElem?_map,List.getElem?_eq_getElem hk,List.getD_eq_getElem?_getD,List.getElem?_eq_getElem hk]
   rfl
  rw[List.getElem?_take]at h1
  split at h1
  ·exact h1
  ·cases h1
 have c0:w.cell? ⟨g,i,none⟩=some (.int .i64 (xs.getD i 0)):=by rw[hB.cell];exact hcur i hi
 have c1:w.cell? ⟨g,j,none⟩=some (.int .i64 (xs.getD j 0)):=by rw[hB.cell];exact hcur j hj
 have HB:=Lib.hid hB
 have HC:=Lib.hid hcl
 have HT:=Lib.hid hct
 have HM:=Lib.hid hcm
 generalize hxi:xs.getD i 0=x at c0
 generalize hyj:xs.getD j 0=y at c1
 have HX:=Lib.hid hxi
 have HY:=Lib.hid hyj
 clear hcur hB hcl hct hcm h hxi hyj
 go_enter Tryz.func250,Tryz.ntmps250
 go_wp2
 refine wp_region_noPanic ?_
 refine wp_region_held_drew (S:=(fun w'=>Upd (One g) w w')) (by kernel_rfl) ?_ (fun hHeld=> ?_)
 ·(first|exact(Upd.refl _ _).drew|exact hHeld|exact hHeld.trans hq)
 refine wpK 0 rfl ?_
 refine wpK 1 rfl ?_
 refine wpK 2 rfl ?_
 refine wpK 3 rfl ?_
 refine wpK 4 rfl ?_
 refine wpK 5 rfl ?_
 refine wpK 6 rfl ?_
 refine wpK 8 rfl ?_
 refine wpK 9 rfl ?_
 refine wpK 10 rfl ?_
 refine wpR [7,11] ?_
 refine wpC rfl (fun K hK=> ?_) ?_
 ·go_simp
  refine hK.out _ _ ?_ (fun hHeld=> ?_)
  ·(first|exact(Upd.refl _ _).drew|exact hHeld|exact hHeld.trans hq)
  clear hK K
  try simp only[Act.put,sT,sS,sZ]
  refine wpR [11] ?_
  refine wpC rfl (fun K hK=> ?_) AllReadyH.nil
  go_simp
  refine hK.out _ _ ?_ (fun hHeld=> ?_)
  ·(first|exact(Upd.refl _ _).drew|exact hHeld|exact hHeld.trans hq)
  clear hK K
  try simp only[Act.put,sT,sS,sZ]
  refine wpK 12 rfl ?_
  refine wpR [13] ?_
  refine wpC rfl (fun K hK=> ?_) AllReadyH.nil
  (first
   |(refine Zf rfl rfl (g:=g) (i:=i) (v:= .int .i64 y) rfl rfl (show Blk _ g 3 _ from HB.out) (by kernel_rfl) (by have:=HC.out;omega) rfl ?_;intro w5 hb5 hu5;have HB5:=Lib.hid hb5;have hq:Upd (One g) _ w5:=hu5)
   |(refine Zf rfl rfl (g:=g) (i:=j) (v:= .int .i64 x) rfl rfl (show Blk _ g 3 _ from HB.out) (by kernel_rfl) (by have:=HC.out;omega) rfl ?_;intro w5 hb5 hu5;have HB5:=Lib.hid hb5;have hq:Upd (One g) _ w5:=hu5)
   |(refine Zf rfl rfl (g:=g) (i:=j) (v:= .int .i64 x) rfl rfl HB5.out (by kernel_rfl) (by have:=HC.out;rw[List.length_set];omega) rfl ?_;intro w6 hb6 hu6;have HB6:=Lib.hid hb6;have hq:Upd (One g) _ w6:=hu6)
   |(refine Zf rfl rfl (g:=g) (i:=i) (v:= .int .i64 y) rfl rfl HB5.out (by kernel_rfl) (by have:=HC.out;rw[List.length_set];omega) rfl ?_;intro w6 hb6 hu6;have HB6:=Lib.hid hb6;have hq:Upd (One g) _ w6:=hu6))
  refine hK.out _ _ ?_ (fun hHeld=> ?_)
  ·(first|exact(Upd.refl _ _).drew|exact hHeld|exact hHeld.trans hq)
  clear hK K
  try simp only[Act.put,sT,sS,sZ]
  refine wpK 14 rfl ?_
  refine wpR [15] ?_
  refine wpC rfl (fun K hK=> ?_) AllReadyH.nil
  (first
   |(refine Zf rfl rfl (g:=g) (i:=i) (v:= .int .i64 y) rfl rfl (show Blk _ g 3 _ from HB.out) (by kernel_rfl) (by have:=HC.out;omega) rfl ?_;intro w5 hb5 hu5;have HB5:=Lib.hid hb5;have hq:Upd (One g) _ w5:=hu5)
   |(refine Zf rfl rfl (g:=g) (i:=j) (v:= .int .i64 x) rfl rfl (show Blk _ g 3 _ from HB.out) (by kernel_rfl) (by have:=HC.out;omega) rfl ?_;intro w5 hb5 hu5;have HB5:=Lib.hid hb5;have hq:Upd (One g) _ w5:=hu5)
   |(refine Zf rfl rfl (g:=g) (i:=j) (v:= .int .i64 x) rfl rfl HB5.out (by kernel_rfl) (by have:=HC.out;rw[List.length_set];omega) rfl ?_;intro w6 hb6 hu6;have HB6:=Lib.hid hb6;have hq:Upd (One g) _ w6:=hu6)
   |(refine Zf rfl rfl (g:=g) (i:=i) (v:= .int .i64 y) rfl rfl HB5.out (by kernel_rfl) (by have:=HC.out;rw[List.length_set];omega) rfl ?_;intro w6 hb6 hu6;have HB6:=Lib.hid hb6;have hq:Upd (One g) _ w6:=hu6))
  refine hK.out _ _ ?_ (fun hHeld=> ?_)
  ·(first|exact(Upd.refl _ _).drew|exact hHeld|exact hHeld.trans hq)
  clear hK K
  try simp only[Act.put,sT,sS,sZ]
  refine wpD (NoPanic.normal ?_)
  go_wp2
  have hsw:ZbF xs i j=(xs.set i y).set j x:=by unfold ZbF;rw[HX.out,HY.out]
  refine bodyPost_end (results_none rfl _ _ _) rfl ⟨rfl,?_,hHeld.mono (fun k _ e=>by cases e;rfl)⟩
  rw[hsw]
  exact ZaJ HB6.out hgb hnc (by rw[List.length_set,List.length_set];exact HC.out) (Zjt (by simpa using HT.out)) HM.out (by simp)
 refine wpC rfl (fun K hK=> ?_) AllReadyH.nil
 go_simp
 refine hK.out _ _ ?_ (fun hHeld=> ?_)
 ·(first|exact(Upd.refl _ _).drew|exact hHeld|exact hHeld.trans hq)
 clear hK K
 try simp only[Act.put,sT,sS,sZ]
 refine wpR [7] ?_
 refine wpC rfl (fun K hK=> ?_) AllReadyH.nil
 go_simp
 refine hK.out _ _ ?_ (fun hHeld=> ?_)
 ·(first|exact(Upd.refl _ _).drew|exact hHeld|exact hHeld.trans hq)
 clear hK K
 try simp only[Act.put,sT,sS,sZ]
 refine wpK 12 rfl ?_
 refine wpR [13] ?_
 refine wpC rfl (fun K hK=> ?_) AllReadyH.nil
 (first
  |(refine Zf rfl rfl (g:=g) (i:=i) (v:= .int .i64 y) rfl rfl (show Blk _ g 3 _ from HB.out) (by kernel_rfl) (by have:=HC.out;omega) rfl ?_;intro w5 hb5 hu5;have HB5:=Lib.hid hb5;have hq:Upd (One g) _ w5:=hu5)
  |(refine Zf rfl rfl (g:=g) (i:=j) (v:= .int .i64 x) rfl rfl (show Blk _ g 3 _ from HB.out) (by kernel_rfl) (by have:=HC.out;omega) rfl ?_;intro w5 hb5 hu5;have HB5:=Lib.hid hb5;have hq:Upd (One g) _ w5:=hu5)
  |(refine Zf rfl rfl (g:=g) (i:=j) (v:= .int .i64 x) rfl rfl HB5.out (by kernel_rfl) (by have:=HC.out;rw[List.length_set];omega) rfl ?_;intro w6 hb6 hu6;have HB6:=Lib.hid hb6;have hq:Upd (One g) _ w6:=hu6)
  |(refine Zf rfl rfl (g:=g) (i:=i) (v:= .int .i64 y) rfl rfl HB5.out (by kernel_rfl) (by have:=HC.out;rw[List.length_set];omega) rfl ?_;intro w6 hb6 hu6;have HB6:=Lib.hid hb6;have hq:Upd (One g) _ w6:=hu6))
 refine hK.out _ _ ?_ (fun hHeld=> ?_)
 ·(first|exact(Upd.refl _ _).drew|exact hHeld|exact hHeld.trans hq)
 clear hK K
 try simp only[Act.put,sT,sS,sZ]
 refine wpK 14 rfl ?_
 refine wpR [15] ?_
 refine wpC rfl (fun K hK=> ?_) AllReadyH.nil
 (first
  |(refine Zf rfl rfl (g:=g) (i:=i) (v:= .int .i64 y) rfl rfl (show Blk _ g 3 _ from HB.out) (by kernel_rfl) (by have:=HC.out;omega) rfl ?_;intro w5 hb5 hu5;have HB5:=Lib.hid hb5;have hq:Upd (One g) _ w5:=hu5)
  |(refine Zf rfl rfl (g:=g) (i:=j) (v:= .int .i64 x) rfl rfl (show Blk _ g 3 _ from HB.out) (by kernel_rfl) (by have:=HC.out;omega) rfl ?_;intro w5 hb5 hu5;have HB5:=Lib.hid hb5;have hq:Upd (One g) _ w5:=hu5)
  |(refine Zf rfl rfl (g:=g) (i:=j) (v:= .int .i64 x) rfl rfl HB5.out (by kernel_rfl) (by have:=HC.out;rw[List.length_set];omega) rfl ?_;intro w6 hb6 hu6;have HB6:=Lib.hid hb6;have hq:Upd (One g) _ w6:=hu6)
  |(refine Zf rfl rfl (g:=g) (i:=i) (v:= .int .i64 y) rfl rfl HB5.out (by kernel_rfl) (by have:=HC.out;rw[List.length_set];omega) rfl ?_;intro w6 hb6 hu6;have HB6:=Lib.hid hb6;have hq:Upd (One g) _ w6:=hu6))
 refine hK.out _ _ ?_ (fun hHeld=> ?_)
 ·(first|exact(Upd.refl _ _).drew|exact hHeld|exact hHeld.trans hq)
 clear hK K
 try simp only[Act.put,sT,sS,sZ]
 refine wpD (NoPanic.normal ?_)
 go_wp2
 have hsw:ZbF xs i j=(xs.set i y).set j x:=by unfold ZbF;rw[HX.out,HY.out]
 refine bodyPost_end (results_none rfl _ _ _) rfl ⟨rfl,?_,hHeld.mono (fun k _ e=>by cases e;rfl)⟩
 rw[hsw]
 exact ZaJ HB6.out hgb hnc (by rw[List.length_set,List.length_set];exact HC.out) (Zjt (by simpa using HT.out)) HM.out (by simp)
end Go.Proofs.YtklmahmfmbppkaaGreat
/- Orders:the heap's own functions. -/
namespace Go.Proofs.YtklmahmfmbppkaaGreat
set_option linter.unusedSimpArgs false
set_option linter.unusedVariables false
open Go.RowKit
def hif (hb:Nat):Value:= .iface 84 (.pointer (some ⟨hb,0,none⟩))
def HeapM (w:World) (base hb:Nat) (A:Option Addr) (xs:List Int) (c:Nat):Prop:=
 Blk w hb 82 [.slice A xs.length c]∧w.ownsRow base 3 1 (.slice A xs.length c) xs.length (xs.map (Value.int .i64))∧¬Own (.slice A xs.length c) hb
theorem HeapM.ints {w:World} {base hb:Nat} {A:Option Addr} {xs:List Int} {c:Nat} (h:HeapM w base hb A xs c):Ints (fun i=>base≤i) w A xs:=Ints.of_own h.2.1
theorem HeapM.cell {w:World} {base hb:Nat} {A:Option Addr} {xs:List Int} {c:Nat} (h:HeapM w base hb A xs c):w.cell? ⟨hb,0,none⟩=some (.slice A xs.length c):=by simpa using h.1.cell 0
theorem HeapM.upd {w w':World} {base hb:Nat} {A:Option Addr} {xs:List Int} {c:Nat} (h:HeapM w base hb A xs c) (u:Upd No w w'):HeapM w' base hb A xs c:=⟨h.1.upd u id,Za h.2.1 u (fun _ _=>id),h.2.2⟩
theorem HeapM.mLess {w:World} {base hb:Nat} {A:Option Addr} {xs:List Int} {c:Nat} (h:HeapM w base hb A xs c):(method 396 84 (.pointer (some ⟨hb,0,none⟩)) "Less").run Tryz.prog w= .ok (249,.slice A xs.length c) w:=Zrc _ _ _ _ _ h.cell
theorem HeapM.mSwap {w:World} {base hb:Nat} {A:Option Addr} {xs:List Int} {c:Nat} (h:HeapM w base hb A xs c):(method 396 84 (.pointer (some ⟨hb,0,none⟩)) "Swap").run Tryz.prog w= .ok (250,.slice A xs.length c) w:=Zrb _ _ _ _ _ h.cell
theorem HeapM.swap {w:World} {base hb:Nat} {A:Option Addr} {xs:List Int} {c:Nat} (h:HeapM w base hb A xs c) (hl:xs.length≤1000000) {i j:Nat} (hi:i<xs.length) (hj:j<xs.length):
  Calls Tryz.prog 250 #[.slice A xs.length c,.int .i64 (i:Int),.int .i64 (j:Int)] w fun e w'=>e= .returned (.tuple #[])∧HeapM w' base hb A (ZbF xs i j) c∧Upd (Own (.slice A xs.length c)) w w':=by
 refine Calls.mono (ZqW w base A c xs i j h.2.1 hi hj hl) ?_
 rintro e w' ⟨rfl,ho,hu⟩
 have hs:=ZdN xs i j
 refine⟨rfl,⟨?_,?_,?_⟩,hu⟩
 ·rw[hs];exact h.1.upd hu h.2.2
 ·rw[hs];exact ho
 ·rw[hs];exact h.2.2
theorem HeapM.less {w:World} {base hb:Nat} {A:Option Addr} {xs:List Int} {c:Nat} (h:HeapM w base hb A xs c) (hl:xs.length≤1000000) {i j:Nat} (hi:i<xs.length) (hj:j<xs.length):
  Calls Tryz.prog 249 #[.slice A xs.length c,.int .i64 (i:Int),.int .i64 (j:Int)] w fun e w'=>e= .returned (.bool (decide (xs.getD i 0<xs.getD j 0)))∧HeapM w' base hb A xs c∧Upd No w w':=by
 refine Calls.mono (ZqX _ w A c xs i j h.ints hi hj hl) ?_
 rintro e w' ⟨rfl,hu⟩
 refine⟨?_,h.upd hu,hu⟩
 simp[List.getD,hi,hj]
def UpI (xs:List Int) (j:Nat):Prop:=
 (∀k,1≤k→k<xs.length→k≠j→xs.getD ((k-1)/2) 0≤xs.getD k 0)∧(∀k,1≤k→k<xs.length→(k-1)/2=j→1≤j→xs.getD ((j-1)/2) 0≤xs.getD k 0)
def HpF (xs:List Int) (lo n:Nat):Prop:=∀k,1≤k→k<n→lo≤(k-1)/2→xs.getD ((k-1)/2) 0≤xs.getD k 0
theorem ZdO (xs:List Int) (i j k:Nat) (hi:i<xs.length) (hj:j<xs.length):(ZbF xs i j).getD k 0=if k=j then xs.getD i 0 else if k=i then xs.getD j 0 else xs.getD k 0:=by
 unfold ZbF
 simp only[List.getD_eq_getElem?_getD,List.getElem?_set,List.length_set]
 grind
theorem ZlE (xs:List Int) (i j:Nat) (hi:i<xs.length) (hj:j<xs.length):(ZbF xs i j).Perm xs:=by
 rw[List.perm_iff_count]
 intro a
 unfold ZbF
 rw[List.count_set,List.count_set]<;>grind
theorem ZmD (xs:List Int) (j:Nat) (h:UpI xs j) (hs:j=0∨xs.getD ((j-1)/2) 0≤xs.getD j 0):HpF xs 0 xs.length:=by
 intro k h1 h2 _
 by_cases e:k=j
 ·subst e
  rcases hs with hs|hs
  ·omega
  ·exact hs
 ·exact h.1 k h1 h2 e
theorem ZpV (xs:List Int) (j:Nat) (hj:j<xs.length) (h:UpI xs j) (h0:0<j) (hs:xs.getD j 0<xs.getD ((j-1)/2) 0):UpI (ZbF xs ((j-1)/2) j) ((j-1)/2):=by
 have hp:(j-1)/2<xs.length:=by omega
 constructor
 ·intro k h1 h2 h3
  rw[ZdN]at h2
  rw[ZdO _ _ _ _ hp hj,ZdO _ _ _ _ hp hj]
  by_cases e:k=j
  ·subst e
   have:(k-1)/2≠k:=by omega
   simp only[if_true,if_neg this]
   omega
  ·rw[if_neg e,if_neg h3]
   by_cases e2:(k-1)/2=j
   ·rw[if_pos e2]
    exact h.2 k h1 h2 e2 (by omega)
   ·rw[if_neg e2]
    by_cases e3:(k-1)/2=(j-1)/2
    ·rw[if_pos e3]
     have:=h.1 k h1 h2 e
     rw[e3]at this
     omega
    ·rw[if_neg e3]
     exact h.1 k h1 h2 e
 ·intro k h1 h2 h3 h4
  rw[ZdN]at h2
  rw[ZdO _ _ _ _ hp hj,ZdO _ _ _ _ hp hj]
  have a1:((j-1)/2-1)/2≠j:=by omega
  have a2:((j-1)/2-1)/2≠(j-1)/2:=by omega
  have a3:k≠(j-1)/2:=by omega
  rw[if_neg a1,if_neg a2,if_neg a3]
  have hpp:=h.1 ((j-1)/2) h4 hp (by omega)
  by_cases e:k=j
  ·rw[if_pos e];exact hpp
  ·rw[if_neg e]
   have:=h.1 k h1 h2 e
   rw[h3]at this
   omega
set_option maxRecDepth 100000 in
set_option maxHeartbeats 4000000 in
theorem hup (w:World) (base hb:Nat) (A:Option Addr) (xs:List Int) (c:Nat) (j:Nat) (hj:j<xs.length) (hl:xs.length≤1000000) (h:HeapM w base hb A xs c) (hU:UpI xs j):
  Calls Tryz.prog 90 #[hif hb,.int .i64 (j:Int)] w fun e w'=>e= .returned (.tuple #[])∧∃ys,ys.Perm xs∧HpF ys 0 ys.length∧HeapM w' base hb A ys c∧Upd (Own (.slice A xs.length c)) w w':=by
 unfold hif
 go_enter Tryz.func90,Tryz.ntmps90
 go_wp2
 go_loopg [1] j (fun gk vj wr=>∃ys,vj= .int .i64 (gk:Int)∧gk<xs.length∧Hid (ys.length=xs.length∧ys.Perm xs∧UpI ys gk)∧HeapM wr base hb A ys c∧Upd (Own (.slice A xs.length c)) w wr)
 case atStart=>exact⟨xs,rfl,hj,Lib.hid ⟨rfl,List.Perm.refl _,hU⟩,h,Upd.refl _ _⟩
 case round=>
  obtain⟨ys,rfl,hg,hY,hH,hu⟩:=hrel
  have hm:=hH.mLess
  rcases Nat.eq_zero_or_pos gk with rfl|hpos
  ·go_wp2
   go_end0
   exact⟨rfl,ys,hY.out.2.1,ZmD ys 0 hY.out.2.2 (Or.inl rfl),hH,hu⟩
  ·obtain⟨p,hp⟩:∃p,(gk-1)/2=p:=⟨_,rfl⟩
   have hq:((gk:Int)-1).tdiv 2=(p:Int):=by rw[Int.tdiv_eq_ediv_of_nonneg (by omega)];omega
   have hpi:(((p:Nat):Int)==(gk:Int))=false:=by rw[beq_eq_false_iff_ne];omega
   have hw:RowKit.wrap64 (p:Int)=(p:Int):=IntWalk.wrap64_in _ (by omega)
   have hyl:=hY.out.1
   have hpl:p<ys.length:=by omega
   have hgl:gk<ys.length:=by omega
   have HL:=Lib.hid (hH.less (by omega) hgl hpl)
   have HP:=Lib.hid hp
   clear hp hpl hyl
   go_wp2_with fail
   obtain⟨b,hb⟩:∃b,decide (ys.getD gk 0<ys.getD p 0)=b:=⟨_,rfl⟩
   rw[hb]at HL
   have HB:=Lib.hid hb
   clear hb
   refine Calls.mono HL.out ?_
   rintro e w2 ⟨rfl,hH2,hu2⟩
   have hm2:=hH2.mSwap
   have HY:=Lib.hid hY.out.1
   have HS:=Lib.hid (hH2.swap (by have:=HY.out;omega) (i:=p) (j:=gk) (by have:=HP.out;have:=HY.out;omega) hgl)
   cases b with
   |true=>
    go_wp2_with fail
    refine Calls.mono HS.out ?_
    rintro e w3 ⟨rfl,hH3,hu3⟩
    go_wp2
    trace_state
    go_roundg p
    case measure=>have:=HP.out;omega
    case rel=>
     have hlt:ys.getD gk 0<ys.getD p 0:=of_decide_eq_true HB.out
     have hpg:p<gk:=by have:=HP.out;omega
     have hpe:=HP.out
     refine⟨ZbF ys p gk,rfl,by omega,Lib.hid ⟨by rw[ZdN];exact HY.out,(ZlE ys p gk (by omega) hgl).trans hY.out.2.1,?_⟩,hH3,(hu.trans (hu2.mono (fun _ _ e=>e.elim))).trans (hu3.mono (fun _ _ e=> ?_))⟩
     ·rw[←hpe]at hlt ⊢
      exact ZpV ys gk hgl hY.out.2.2 hpos hlt
     ·rw[HY.out]at e
      exact e
   |false=>
    go_wp2
    go_end0
    exact⟨rfl,ys,hY.out.2.1,ZmD ys gk hY.out.2.2 (Or.inr (by rw[HP.out];have:=of_decide_eq_false HB.out;omega)),hH2,hu.trans (hu2.mono (fun _ _ e=>e.elim))⟩
end Go.Proofs.YtklmahmfmbppkaaGreat
/- Orders:heap.down. -/
namespace Go.Proofs.YtklmahmfmbppkaaGreat
set_option linter.unusedSimpArgs false
set_option linter.unusedVariables false
open Go.RowKit
def Zso (xs:List Int) (lo n i:Nat):Prop:=
 (∀k,1≤k→k<n→lo≤(k-1)/2→(k-1)/2≠i→xs.getD ((k-1)/2) 0≤xs.getD k 0)∧(∀k,1≤k→k<n→(k-1)/2=i→1≤i→lo≤(i-1)/2→xs.getD ((i-1)/2) 0≤xs.getD k 0)
end Go.Proofs.YtklmahmfmbppkaaGreat
/- Orders:heap.Init,and the heap's Push and Pop. -/
namespace Go.Proofs.YtklmahmfmbppkaaGreat
set_option linter.unusedSimpArgs false
set_option linter.unusedVariables false
open Go.RowKit
theorem HpF.down {xs:List Int} {lo n:Nat} (h:HpF xs (lo+1) n):Zso xs lo n lo:=
 ⟨fun k h1 h2 h3 h4=>h k h1 h2 (by omega),fun k h1 h2 h3 h4 h5=>by omega⟩
end Go.Proofs.YtklmahmfmbppkaaGreat
/- Orders:heap.Push and heap.Pop. -/
namespace Go.Proofs.YtklmahmfmbppkaaGreat
set_option linter.unusedSimpArgs false
set_option linter.unusedVariables false
open Go.RowKit
theorem HpF.least {xs:List Int} (h:HpF xs 0 xs.length):∀k,k<xs.length→xs.getD 0 0≤xs.getD k 0:=by
 intro k
 induction k using Nat.strongRecOn with
 |_ k ih=>
  intro hk
  cases k with
  |zero=>exact Int.le_refl _
  |succ j=>
   have h1:=h (j+1) (by omega) hk (by omega)
   have h2:=ih ((j+1-1)/2) (by omega) (by omega)
   omega
theorem HpF.take {zs:List Int} {n:Nat} (h:HpF zs 0 n):HpF (zs.take n) 0 n:=by
 intro k h1 h2 h3
 have h4:=h k h1 h2 h3
 have e1:(k-1)/2<n:=by omega
 simp only[List.getD_eq_getElem?_getD,List.getElem?_take_of_lt e1,List.getElem?_take_of_lt h2]
 simpa only[List.getD_eq_getElem?_getD]using h4
end Go.Proofs.YtklmahmfmbppkaaGreat
