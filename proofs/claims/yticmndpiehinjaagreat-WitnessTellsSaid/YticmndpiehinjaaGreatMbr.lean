/- Closed walks: the first of the shortest. -/
import Derived.Test.YticmndpiehinjaaGreatMbq
namespace Go.Proofs.YticmndpiehinjaaGreat
set_option linter.unusedVariables false
set_option linter.unusedSimpArgs false
section
open Go.RowKit
def ToldC (w:World) (d:List Edge) (e:Ending) (w':World):Prop:=
 ∃A c,e= .returned (.tuple #[.slice A d.length c,.int .i64 (if d.length=0 then 3 else 0)])∧w'.ownsRow w.heap.size 68 4 (.slice A d.length c) d.length (Zh d)∧Upd No w w'
set_option maxRecDepth 100000 in
set_option maxHeartbeats 8000000 in
theorem Zn2 (F:Nat→Prop) (w:World) (A:Option Addr) (c:Nat) (l:List Edge) (mask must:Int) (hW:Walk F w A l) (hl:l.length≤2000):
  Calls Tryz.prog 24 #[.slice A l.length c,.int .i64 mask,.int .i64 must] w (ToldC w (ZaU l mask must)):=by
 obtain⟨ma,hma⟩:∃ma,bits .and .i64 mask 14=ma:=⟨_,rfl⟩;obtain⟨mu,hmu⟩:∃mu,bits .and .i64 must 14=mu:=⟨_,rfl⟩;obtain⟨wb,hwb⟩:∃wb,(w.alloc (.cells #[.int .i64 mask] 3)).setCell ⟨w.heap.size,0,none⟩ (.int .i64 ma)=wb:=⟨_,rfl⟩;have u0:Upd No w wb:=by rw[←hwb];exact((Upd.refl No w).alloc _).then_ ((Upd.refl (One w.heap.size) _).setOne 0 _) (fun i e=> .inr (by unfold One at e;omega))
 have hsz:wb.heap.size=w.heap.size+1:=by rw[←hwb];simp
 have bM:Blk wb w.heap.size 3 [.int .i64 ma]:=by rw[←hwb];exact(Blk.new w 3 [.int .i64 mask]).set_ 0 (.int .i64 ma)
 have qT:∀(w:World) (a:Option Addr) (n c:Nat),(binOp .eql 95 (.slice a n c) (.slice none 0 0)).run Tryz.prog w= .ok (.bool a.isNone) w:=fun w a n c=>Lib.run_eql_slice_nil w _ _ a n c 0 0 Tryz.underlying95
 have hneed:(mu != 0)=Zak must:=by rw[←hmu];exact ZrR must
 obtain⟨need,hnd⟩:∃need,Zak must=need:=⟨_,rfl⟩;rw[hnd]at hneed;obtain⟨D,hD⟩:∃D,Z2 l mask=D:=⟨_,rfl⟩;have hDl:D.length≤2000:=by rw[←hD];exact Nat.le_trans (List.length_filter_le _ _) hl
 have hgl:ZaM l ma=D:=by rw[←hma,ZnJ,hD]
 obtain⟨ids,hids⟩:∃ids,ZaH D=ids:=⟨_,rfl⟩;obtain⟨keys,hkeys⟩:∃keys,Zbi D=keys:=⟨_,rfl⟩;have hsi:ids.Pairwise (·<·):=by rw[←hids];exact Zbx _
 have hsk:keys.Pairwise (·<·):=by rw[←hkeys];exact Zbx _
 have hil:ids.length≤4096:=by
  have h1:=ZeY (ZbU D);rw[Zha]at h1;have h2:(ZaH D).length≤2*D.length:=h1;rw[hids]at h2;omega
 have hkl:keys.length≤100000:=by
  have h1:=ZeY (D.map Edge.key);rw[List.length_map]at h1;have h2:(Zbi D).length≤D.length:=h1;rw[hkeys]at h2;omega
 have hne:D≠[]→ids≠[]∧keys≠[]:=by
  intro h;obtain⟨e,m,rfl⟩:=List.exists_cons_of_ne_nil h;have h1:=(Zhb (D:=e::m) (e:=e) List.mem_cons_self).1;have h2:=ZfX (D:=e::m) (e:=e) List.mem_cons_self;rw[hids]at h1;rw[hkeys]at h2;exact⟨fun e2=>(by rw[e2]at h1;cases h1),fun e2=>(by rw[e2]at h2;cases h2)⟩
 obtain⟨q,hq⟩:∃q,Zci ids keys ids.length [] D=q:=⟨_,rfl⟩;obtain⟨ks,hks⟩:∃ks:Int→Int,ks=fun i=>if 0≤i∧i<(ids.length:Int) then Zac (ofA ma q) mu i (Z7 ids.length q ma i) (Zw ids.length q ma mu i) need else 0:=⟨_,rfl⟩
 obtain⟨wf,hwf⟩:∃wf:Int→List HArc,wf=fun i=>ZG (ofA ma q) mu i (Z7 ids.length q ma i) (Zw ids.length q ma mu i) (ks i).toNat i need:=⟨_,rfl⟩
 have hks1:∀i:Int,0≤i→i<(ids.length:Int)→ks i=Zac (ofA ma q) mu i (Z7 ids.length q ma i) (Zw ids.length q ma mu i) need:=fun i h0 h1=>by rw[hks];exact if_pos ⟨h0,h1⟩
 have hwf1:∀i:Int,wf i=ZG (ofA ma q) mu i (Z7 ids.length q ma i) (Zw ids.length q ma mu i) (ks i).toNat i need:=fun i=>by rw[hwf]
 have hway:Z9 q→ZaU l mask must=(ZN ks wf ids.length).map (Zc2 ids keys)∧∀a∈ZN ks wf ids.length,Zq ids.length a=true∧a.label<(keys.length:Int):=fun hs=>
  Zqe (by omega) ids keys (by rw[hD,hids]) (by rw[hD,hkeys]) (by rw[hD,hq]) hs ks wf (by rw[hma,hmu,hnd];exact hks1) (fun i h0 h1=>by rw[hks];exact if_neg (fun e=>by omega)) (fun i h1=>by rw[hks];exact if_neg (fun e=>by omega)) (by rw[hma,hmu,hnd];exact fun i _ _=>hwf1 i)
 obtain⟨doc,hdoc⟩:∃doc,ZaU l mask must=doc:=⟨_,rfl⟩;rw[hdoc]at hway ⊢;have HCl:=Qh (Zsb F wb A c l (hW.upd u0 (fun _ _=>id)) (by omega));have m0:∀W,Upd No wb W→W.cell? ⟨w.heap.size,0,none⟩=some (.int .i64 ma):=fun W u=>by have:=(bM.upd u id).cell 0;simpa using this
 have HDel:=Qh (fun(W:World) (A:Option Addr) (c:Nat) (u:Upd No wb W) (ho:W.ownsRow wb.heap.size 68 4 (.slice A l.length c) l.length (Zh l))=>hgl▸Ztl W wb.heap.size A c l ⟨w.heap.size,0,none⟩ ma ho (by omega) (m0 W u) (by show w.heap.size<wb.heap.size;omega));have HNm:=Qh (fun(W:World) (A:Option Addr) (c:Nat) (h:Walk (fun i=>wb.heap.size≤i) W A D)=>hkeys▸hids▸Zr7 _ W A c D h (by omega));have HGr:=Qh (fun(W:World) (A:Option Addr) (c:Nat) (F0 F1 F2:Nat→Prop) (h:Walk F0 W A D) (A1 A2:Option Addr) (c1 c2:Nat) (hA:Ints F1 W A1 ids) (hB:Ints F2 W A2 keys)=>hq▸Zr9 F0 F1 F2 W A c D h A1 A2 c1 c2 ids keys hA hB hsi hsk hne (by omega) hil hkl);have HWAY:=Qh hway;have HKS1:=Qh hks1;have HWF1:=Qh hwf1;have U0:=Qh u0;have hrr:Upd No wb wb:=Upd.refl _ _;clear hW u0 bM hway hks1 hwf1 hks hwf hgl hD hids hkeys hsi hsk hne hq hnd hdoc
 go_enter Tryz.func24,Tryz.ntmps24
 go_wp2_with fail
 refine(HCl.out).mono ?_;rintro e w1 ⟨A1,c1,rfl,ho1,hu1⟩;have hu1':Upd No wb w1:=hu1
 go_wp2_with fail
 refine(HDel.out w1 A1 c1 hu1' ho1).mono ?_;rintro e w2 ⟨rfl,hw2,hu2⟩;have HU2:=Qh (hu1.then_ hu2 (fun i e=> .inr (ho1.lt i e).1));have HW2:=Qh hw2;clear hu1 hu1' hu2 ho1 hw2 hwb hma hmu HCl HDel
 go_wp2_with fail
 refine(HNm.out w2 A1 c1 HW2.out).mono ?_;rintro e w3 ⟨I1,d1,I2,d2,rfl,hi1,hi2,hu3⟩;have hu23:=HU2.out.trans hu3;obtain⟨w4,hw4⟩:∃w4,w3.alloc (.cells #[.slice I1 ids.length d1,.slice I2 keys.length d2] 90)=w4:=⟨_,rfl⟩;have u4:Upd No w3 w4:=by rw[←hw4];exact(Upd.refl No w3).alloc _
 have bN:Blk w4 w3.heap.size 90 [.slice I1 ids.length d1,.slice I2 keys.length d2]:=by rw[←hw4];exact Blk.new w3 _ _
 have s0:=bN.cell 0;have s1:=bN.cell 1;simp only[Qz,Qs]at s0 s1;have HI1:=Qh (hi1.upd u4 (fun _ _=>id));have HI2:=Qh (hi2.upd u4 (fun _ _=>id));have HG4:=Qh (HGr.out w4 A1 c1 _ _ _ (Recs.upd HW2.out (hu3.trans u4) (fun _ _=>id)) I1 I2 d1 d2 HI1.out HI2.out);have HU4:=Qh (hu23.trans u4);have BN:=Qh bN;clear hi1 hi2 hu3 hu23 u4 bN HNm HGr HU2 HW2
 go_wp2_with fail
 refine(HG4.out).mono ?_;rintro e w5 ⟨G,g,K,rfl,hK,hdg,hu5⟩;have HU5:=Qh (HU4.out.trans hu5);have HDG:=Qh hdg;have hr:=hdg.right;have hso:=hdg.sorted;have HR:=Qh hr;have HSO:=Qh hso;have HWY:=Qh (HWAY.out hso);have M0:∀W,Upd No w5 W→W.cell? ⟨w.heap.size,0,none⟩=some (.int .i64 ma):=fun W u=>m0 W (HU5.out.trans u)
 have N0:∀W,Upd No w5 W→W.cell? ⟨w3.heap.size,0,none⟩=some (.slice I1 ids.length d1):=fun W u=>by have:=(BN.out.upd (hu5.trans u) id).cell 0;simpa using this
 have N1:∀W,Upd No w5 W→W.cell? ⟨w3.heap.size,1,none⟩=some (.slice I2 keys.length d2):=fun W u=>by have:=(BN.out.upd (hu5.trans u) id).cell 1;simpa using this
 have HEd:=Qh (fun(W:World) (u:Upd No w5 W) (a:HArc) (ha:Zq ids.length a=true∧a.label<(keys.length:Int))=>(by
  have h:=(ZP _ _).1 ha.1;exact Zsa _ _ W I1 I2 d1 d2 ids keys (HI1.out.upd (hu5.trans u) (fun _ _=>id)) (HI2.out.upd (hu5.trans u) (fun _ _=>id)) a h.1 h.2.1 h.2.2.1 h.2.2.2.1 h.2.2.2.2.2.2.1 ha.2:Calls Tryz.prog 54 #[.agg #[.slice I1 ids.length d1,.slice I2 keys.length d2],.agg a.cells.toArray] W fun e w'=>e= .returned (.agg (Zc2 ids keys a).cells.toArray)∧Upd No W w'))
 have HAt:=Qh (fun(W:World) (u:Upd No w5 W) (i:Int)=>ZtU W G (some ⟨g,0,none⟩) ids.length K q (hdg.no u) (by omega) ma mu i);have HSh:=Qh (fun(W:World) (u:Upd No w5 W) (B C:Option Addr) (n:Nat) (hn:n<ids.length) (h:LoopI W B C ids.length (Z7 ids.length q ma n) (Zw ids.length q ma mu n))=>ZnZ W G (some ⟨g,0,none⟩) B C ids.length K q (hdg.no u) (by omega) ma mu _ _ h (Zln (by omega) hr ma mu (n:Int) (by omega) (by omega)) (n:Int) need);have HWk:=Qh (fun(W:World) (u:Upd No w5 W) (B C:Option Addr) (n m:Nat) (hn:n<ids.length) (hm:m≤1000000) (h:LoopI W B C ids.length (Z7 ids.length q ma n) (Zw ids.length q ma mu n))=>Zti W G (some ⟨g,0,none⟩) B C ids.length K q (hdg.no u) (by omega) ma mu _ _ h (Zln (by omega) hr ma mu (n:Int) (by omega) (by omega)) (n:Int) m hm need);have hr5:Upd No w5 w5:=Upd.refl _ _;clear hdg hu5 hr hso hw4 s0 s1 HI1 HI2 BN m0 HG4 HU4 hrr;go_wp2
 go_loopg [11,40] ids.length (fun gk way i wr=>∃(n:Nat) (A5:Option Addr) (c5:Nat) (ws:List HArc),n+gk=ids.length∧i= .int .i64 n∧way= .slice A5 ws.length c5∧Hid (ZN ks wf n=ws)∧Hid (A5=none↔ws=[])∧Hid (ws.length≤1000000)∧
  wr.ownsRow w5.heap.size 102 4 (.slice A5 ws.length c5) ws.length (Zbt ws)∧Upd No w5 wr)
 case atStart=>exact⟨0,none,0,[],by omega,rfl,rfl,Qh rfl,Qh ⟨fun _=>rfl,fun _=>rfl⟩,Qh (by simp),World.ownsRow_nil _ _ _ _,Upd.refl _ _⟩
 case round=>
  obtain⟨n,A5,c5,ws,hgk,rfl,rfl,HWS,HIF,HWN,hown,hu⟩:=hrel;have i1:(0:Int)≤(n:Int):=Qn _
  by_cases hlt:n<ids.length
  ·have i2:(n:Int)<(ids.length:Int):=by omega
   obtain⟨kk,hkk⟩:∃kk,Zac (ofA ma q) mu (n:Int) (Z7 ids.length q ma (n:Int)) (Zw ids.length q ma mu (n:Int)) need=kk:=⟨_,rfl⟩;obtain⟨wk,hwk⟩:∃wk,ZG (ofA ma q) mu (n:Int) (Z7 ids.length q ma (n:Int)) (Zw ids.length q ma mu (n:Int)) kk.toNat (n:Int) need=wk:=⟨_,rfl⟩;have HKS:=Qh (show ks (n:Int)=kk by rw[HKS1.out _ i1 i2,hkk]);have HWF:=Qh (show wf (n:Int)=wk by rw[HWF1.out,HKS.out,hwk]);have hkb:0≤kk∧kk≤1000000:=by rw[←hkk];exact Zot (by omega) HR.out ma mu need i1 i2
   have HWL:=Qh (fun(h:0<kk)=>(by rw[←hwk,←hkk];exact Zol HR.out HSO.out ma mu need i1 i2 (by rw[hkk];exact h):(wk.length:Int)=kk));have HSX:=Qh (fun(W:World) (u:Upd No w5 W) (B C:Option Addr) (h:LoopI W B C ids.length (Z7 ids.length q ma n) (Zw ids.length q ma mu n))=>hkk▸HSh.out W u B C n hlt h)
   have HWX:=Qh (fun(W:World) (u:Upd No w5 W) (B C:Option Addr) (h:LoopI W B C ids.length (Z7 ids.length q ma n) (Zw ids.length q ma mu n))=>(by
    have h2:=HWk.out W u B C n kk.toNat hlt (by omega) h;rw[Int.toNat_of_nonneg hkb.1,hwk]at h2;exact h2:Calls Tryz.prog 53 #[.agg #[.pointer (some ⟨g,0,none⟩),.int .i64 ma,.int .i64 mu,.slice B ids.length ids.length,.slice C ids.length ids.length],.int .i64 n,.int .i64 kk,.bool need] W (ZkT W wk)))
   have HA6:=Qh (HAt.out wr hu (n:Int));have HKB:=Qh hkb;clear hkk hwk hkb
   go_wp2_with fail
   refine(HA6.out).mono ?_;rintro e w6 ⟨B,C,rfl,hli,hu6⟩;obtain⟨wl,hwl⟩:∃wl,w6.alloc (.cells #[.pointer (some ⟨g,0,none⟩),.int .i64 ma,.int .i64 mu,.slice B ids.length ids.length,.slice C ids.length ids.length] 97)=wl:=⟨_,rfl⟩;have ul:Upd No w6 wl:=by rw[←hwl];exact(Upd.refl No w6).alloc _
   have bL:Blk wl w6.heap.size 97 [.pointer (some ⟨g,0,none⟩),.int .i64 ma,.int .i64 mu,.slice B ids.length ids.length,.slice C ids.length ids.length]:=by rw[←hwl];exact Blk.new w6 _ _
   have l0:∀W,Upd No wl W→W.cell? ⟨w6.heap.size,0,none⟩=some (.pointer (some ⟨g,0,none⟩)):=fun W u=>by have:=(bL.upd u id).cell 0;simpa using this
   have l1:∀W,Upd No wl W→W.cell? ⟨w6.heap.size,1,none⟩=some (.int .i64 ma):=fun W u=>by have:=(bL.upd u id).cell 1;simpa using this
   have l2:∀W,Upd No wl W→W.cell? ⟨w6.heap.size,2,none⟩=some (.int .i64 mu):=fun W u=>by have:=(bL.upd u id).cell 2;simpa using this
   have l3:∀W,Upd No wl W→W.cell? ⟨w6.heap.size,3,none⟩=some (.slice B ids.length ids.length):=fun W u=>by have:=(bL.upd u id).cell 3;simpa using this
   have l4:∀W,Upd No wl W→W.cell? ⟨w6.heap.size,4,none⟩=some (.slice C ids.length ids.length):=fun W u=>by have:=(bL.upd u id).cell 4;simpa using this
   have hlr:Upd No wl wl:=Upd.refl _ _;have HLI:=Qh (hli.upd ul);have HUL0:=Qh ((hu.trans hu6).trans ul);have HS8:=Qh (HSX.out wl HUL0.out B C HLI.out);have HCW:=Qh (fun(W:World) (u:Upd No wl W)=>HWX.out W (HUL0.out.trans u) B C (HLI.out.upd u));have HOW:=Qh (Za hown ((hu6.trans ul)) (fun _ _=>id));clear hli hu6 ul bL HA6 HSX HWX hown
   go_wp2_with fail
   refine(HS8.out).mono ?_;rintro e w8 ⟨rfl,hu8⟩;have HUL:=Qh (HUL0.out.trans hu8);have HOW8:=Qh (Za HOW.out hu8 (fun _ _=>id));clear HS8 HOW hwl
   by_cases h0:0<kk
   ·have d0:decide (0<kk)=true:=decide_eq_true h0
    by_cases hA:A5=none
    ·subst hA;have HZ:=Qh (HIF.out.1 rfl);have HWK:=Qh (HCW.out w8 hu8)
     go_wp2_with fail
     refine(HWK.out).mono ?_;rintro e w9 ⟨A9,c9,rfl,ho9,hu9⟩;have hl9:(0:Int)<(wk.length:Int):=by have:=HWL.out h0;omega
     have hA9:¬A9=none:=fun e=>by
      subst e;rcases ho9.2 with ⟨_,h0⟩|⟨g9,_,_,h0,_⟩
      ·omega
      ·cases h0
     have HO9:=Qh (Zx ho9 (show w5.heap.size≤w8.heap.size from HUL.out.size));have HU9:=Qh (HUL.out.trans hu9)
     have HB9:=Qh (show ZN ks wf (n+1)=wk by
      show(if (decide (0<ks (n:Int))&&(ZN ks wf n==[]||decide (ks (n:Int)<((ZN ks wf n).length:Int))))=true then wf (n:Int) else ZN ks wf n)=_
      rw[HWS.out,HKS.out,HWF.out];exact if_pos (by rw[decide_eq_true h0,HZ.out];rfl))
     have HI9:=Qh (show A9=none↔wk=[] from⟨fun e=>absurd e hA9,fun e=>by rw[e]at hl9;simp at hl9⟩);clear ho9 hu9 hl9 hA9;go_wp2
     go_roundg (gk-1)
     case measure=>omega
     case rel=>exact⟨n+1,A9,c9,wk,by omega,by go_num,rfl,HB9,HI9,Qh (by have:=HWL.out h0;have:=HKB.out.2;omega),HO9.out,HU9.out⟩
    ·have hAs:A5.isNone=false:=by cases A5 with|none=>exact absurd rfl hA|some _=>rfl
     by_cases hk:kk<(ws.length:Int)
     ·have d1:decide (kk<(ws.length:Int))=true:=decide_eq_true hk;have HWK:=Qh (HCW.out w8 hu8)
      go_wp2_with fail
      refine(HWK.out).mono ?_;rintro e w9 ⟨A9,c9,rfl,ho9,hu9⟩;have hl9:(0:Int)<(wk.length:Int):=by have:=HWL.out h0;omega
      have hA9:¬A9=none:=fun e=>by
       subst e;rcases ho9.2 with ⟨_,h0⟩|⟨g9,_,_,h0,_⟩
       ·omega
       ·cases h0
      have HO9:=Qh (Zx ho9 (show w5.heap.size≤w8.heap.size from HUL.out.size));have HU9:=Qh (HUL.out.trans hu9)
      have HB9:=Qh (show ZN ks wf (n+1)=wk by
       show(if (decide (0<ks (n:Int))&&(ZN ks wf n==[]||decide (ks (n:Int)<((ZN ks wf n).length:Int))))=true then wf (n:Int) else ZN ks wf n)=_
       rw[HWS.out,HKS.out,HWF.out];exact if_pos (by rw[decide_eq_true h0,decide_eq_true hk];simp))
      have HI9:=Qh (show A9=none↔wk=[] from⟨fun e=>absurd e hA9,fun e=>by rw[e]at hl9;simp at hl9⟩);clear ho9 hu9 hl9 hA9;go_wp2
      go_roundg (gk-1)
      case measure=>omega
      case rel=>exact⟨n+1,A9,c9,wk,by omega,by go_num,rfl,HB9,HI9,Qh (by have:=HWL.out h0;have:=HKB.out.2;omega),HO9.out,HU9.out⟩
     ·have d1:decide (kk<(ws.length:Int))=false:=decide_eq_false hk
      have HB9:=Qh (show ZN ks wf (n+1)=ws by
       show(if (decide (0<ks (n:Int))&&(ZN ks wf n==[]||decide (ks (n:Int)<((ZN ks wf n).length:Int))))=true then wf (n:Int) else ZN ks wf n)=_
       rw[HWS.out,HKS.out,d0,d1];have hw0:¬ws=[]:=fun e=>hA (HIF.out.2 e)
       rw[if_neg (by simpa using hw0)])
      go_wp2
      go_roundg (gk-1)
      case measure=>omega
      case rel=>exact⟨n+1,A5,c5,ws,by omega,by go_num,rfl,HB9,HIF,HWN,HOW8.out,HUL.out⟩
   ·have d0:decide (0<kk)=false:=decide_eq_false h0
    have HB9:=Qh (show ZN ks wf (n+1)=ws by
     show(if (decide (0<ks (n:Int))&&(ZN ks wf n==[]||decide (ks (n:Int)<((ZN ks wf n).length:Int))))=true then wf (n:Int) else ZN ks wf n)=_
     rw[HWS.out,HKS.out,d0];exact if_neg (by simp))
    go_wp2
    go_roundg (gk-1)
    case measure=>omega
    case rel=>exact⟨n+1,A5,c5,ws,by omega,by go_num,rfl,HB9,HIF,HWN,HOW8.out,HUL.out⟩
  ·obtain rfl:n=ids.length:=by omega
   have hdoc:doc=ws.map (Zc2 ids keys):=by rw[HWY.out.1,HWS.out]
   have hgood:∀a∈ws,Zq ids.length a=true∧a.label<(keys.length:Int):=by have:=HWY.out.2;rw[HWS.out]at this;exact this
   have HDoc:=Qh hdoc;have HGd:=Qh hgood;have hszw:w.heap.size≤w5.heap.size:=(U0.out.trans HU5.out).size;clear hdoc hgood HWS HAt HSh HWk HWY HWAY HKS1 HWF1
   by_cases hA:A5=none
   ·subst hA;have hw0:=HIF.out.1 rfl;have HD0:=Qh (show doc=[] by rw[HDoc.out,hw0];rfl);go_wp2
    go_ret2
    rw[HD0.out];exact⟨none,0,rfl,World.ownsRow_nil _ _ _ _,(U0.out.trans HU5.out).trans hu⟩
   ·have hAs:A5.isNone=false:=by cases A5 with|none=>exact absurd rfl hA|some _=>rfl
    have hw0:¬ws=[]:=fun e=>hA (HIF.out.2 e)
    obtain⟨wo,hwo⟩:∃wo,wo=wr:=⟨_,rfl⟩;subst hwo;have HY:=Qh (Zgh hown);have HDL:=Qh (show doc.length=ws.length by rw[HDoc.out,List.length_map]);have HW0:=Qh hw0;have HUO:=Qh hu;clear hown hgk hA hw0;go_wp2
    go_loopg [15,76] ws.length (fun gk out i wr=>∃(k:Nat) (A6:Option Addr) (c6:Nat) (xs:List Edge),k+gk=ws.length∧i= .int .i64 k∧out= .slice A6 xs.length c6∧Hid (xs++(ws.drop k).map (Zc2 ids keys)=doc)∧Hid (xs.length=k)∧
     wr.ownsRow wo.heap.size 68 4 (.slice A6 xs.length c6) xs.length (Zh xs)∧Upd No wo wr)
    case atStart=>exact⟨0,none,0,[],by omega,rfl,rfl,Qh (by rw[HDoc.out];rfl),Qh rfl,World.ownsRow_nil _ _ _ _,Upd.refl _ _⟩
    case round=>
     obtain⟨k,A6,c6,xs,hgk,rfl,rfl,hxs,HXL,hown,hu2⟩:=hrel
     by_cases hlt:k<ws.length
     ·obtain⟨ax,rfl,q0,q1,q2,q3⟩:=(HY.out.upd hu2 (fun _ _=>id)).at_ hlt;obtain⟨x,hxx⟩:∃x,ws[k]=x:=⟨_,rfl⟩;have hdr:=List.drop_eq_getElem_cons hlt;have hgx:=HGd.out _ (List.getElem_mem hlt);rw[hxx]at q0 q1 q2 q3 hdr hgx;have HX:=Qh (show(xs++[Zc2 ids keys x])++(ws.drop (k+1)).map (Zc2 ids keys)=doc by rw[←hxs.out,hdr];simp);have i1:(0:Int)≤(k:Int):=Qn _;have i2:(k:Int)<(ws.length:Int):=by omega
      obtain⟨wx,hwx⟩:∃wx,wr.alloc (.cells #[.int .i64 x.f,.int .i64 x.t,.int .i64 x.kind,.int .i64 x.label] 102)=wx:=⟨_,rfl⟩;have ux:Upd No wr wx:=by rw[←hwx];exact(Upd.refl No wr).alloc _
      have bo:Blk wx wr.heap.size 102 [.int .i64 x.f,.int .i64 x.t,.int .i64 x.kind,.int .i64 x.label]:=by rw[←hwx];exact Blk.new wr _ _
      have huw:Upd No w5 wx:=HUO.out.trans (hu2.trans ux);have g0:=bo.cell 0;have g1:=bo.cell 1;have g2:=bo.cell 2;have g3:=bo.cell 3;simp only[Qz,Qs]at g0 g1 g2 g3;have HC:=Qh (HEd.out wx huw x hgx);have HO:=Qh (Za hown ux (fun _ _=>id));have HUX:=Qh (hu2.trans ux);have hws:ws.length≤1000000:=HWN.out
      generalize Zc2 ids keys x=y at HC HX
      unfold HArc.cells Edge.cells at HC;clear hdr hxx hgx ux bo hown hxs
      go_wp2_with fail
      refine(HC.out).mono ?_;rintro e w7 ⟨rfl,hu7⟩;have hown7:=Za HO.out hu7 (fun _ _=>id);have HU7:=Qh (HUX.out.trans hu7);have hz7:=(HUX.out.trans hu7).size;have HGE:=Qh (fun i e=>(hown7.lt i e).1);have HL:=Qh (Z5 xs);clear hu7 HC HO
      go_wp2_with (at_builtin;refine ZX rfl rfl ZJ (v:= .slice A6 xs.length c6) (n:=xs.length) (xs:=Zh xs) (cells:=[.int .i64 y.f,.int .i64 y.t,.int .i64 y.k,.int .i64 y.key]) (by rfl) rfl hown7 rfl rfl (by have:=HXL.out;omega) (by have:=HXL.out;omega) (by omega) ?_;intro g8 c8 w8 hown8 hu8 hg8 hlt8)
      go_roundg (gk-1)
      case measure=>omega
      case rel=>exact⟨k+1,some ⟨g8,0,none⟩,c8,xs++[y],by omega,by go_num,by simp,HX,Qh (by rw[List.length_append,HXL.out];rfl),by simpa[Zh,Edge.cells]using hown8,HU7.out.then_ hu8 fun i e=> .inr (HGE.out i e)⟩
     ·obtain rfl:k=ws.length:=by omega
      have hxd:xs=doc:=by have:=hxs.out;rw[List.drop_length]at this;simpa using this
      have hl0:¬doc.length=0:=by rw[HDL.out];exact fun e=>HW0.out (List.eq_nil_of_length_eq_zero e)
      have HXD:=Qh hxd;have HL0:=Qh hl0;clear hxd hl0 hxs;go_wp2
      go_ret2
      refine⟨A6,c6,?_,?_,(U0.out.trans HU5.out).trans (HUO.out.trans hu2)⟩
      ·rw[if_neg HL0.out,←HXD.out];rfl
      ·rw[←HXD.out];exact Zx hown (Nat.le_trans hszw HUO.out.size)
end
/- Closed walks:the answers that the document gives. -/
section
open Go.RowKit
def ea:Edge:=⟨1,2,1,5⟩
def eb:Edge:=⟨2,1,3,5⟩
def ec:Edge:=⟨2,1,3,4⟩
section
variable {F:Nat→Prop} {w:World} {A:Option Addr} {c:Nat} {l d:List Edge} {mask must:Int}
end
end
/- Closed walks,the document's:edges in order,and their ids. -/
section
open Go.RowKit
theorem ZfD {w:World} {base:Nat} {A:Option Addr} {c:Nat} {l:List Edge} (ho:w.ownsRow base 68 4 (.slice A l.length c) l.length (Zh l)):Walk (Own (.slice A l.length c)) w A l:=
 Recs.of_own (rows:=l.map Edge.cells) ZaF (by omega) ho
set_option maxRecDepth 100000 in
set_option maxHeartbeats 2000000 in
theorem Zsy (F:Nat→Prop) (w:World) (A:Option Addr) (c:Nat) (l:List Edge) (h:Walk F w A l) (hl:l.length≤100000):
  Calls Tryz.prog 55 #[.slice A l.length c] w (Zgj w (Zb1 [] l)):=by
 have HA:=Qh h;obtain⟨R,hR⟩:∃R,Zb1 [] l=R:=⟨_,rfl⟩;rw[hR];have HR:=Qh hR;clear h hR
 go_enter Tryz.func55,Tryz.ntmps55
 go_wp2
 go_loopg [3,8] l.length (fun gk s i wr=>∃(k:Nat) (A5:Option Addr) (c5:Nat) (xs:List Edge),k+gk=l.length∧i= .int .i64 k∧s= .slice A5 xs.length c5∧Hid (Zb1 xs (l.drop k)=R)∧xs.length≤k∧
  wr.ownsRow w.heap.size 68 4 (.slice A5 xs.length c5) xs.length (Zh xs)∧Upd No w wr)
 case atStart=>exact⟨0,none,0,[],by omega,rfl,rfl,HR,by simp,World.ownsRow_nil _ _ _ _,Upd.refl _ _⟩
 case round=>
  obtain⟨k,A5,c5,xs,hgk,rfl,rfl,hs,hxl,hown,hu⟩:=hrel
  by_cases hlt:k<l.length
  ·obtain⟨ax,rfl,q0,q1,q2,q3⟩:=(HA.out.upd hu (fun _ _=>id)).at_ hlt;obtain⟨x,hx⟩:∃x,l[k]=x:=⟨_,rfl⟩;have hdr:=List.drop_eq_getElem_cons hlt;rw[hx]at q0 q1 q2 q3 hdr;have HS:=Qh (show Zb1 (ZbI x xs) (l.drop (k+1))=R by rw[←hs.out,hdr];rfl);have i1:(0:Int)≤(k:Int):=Qn _;have i2:(k:Int)<(l.length:Int):=by omega
   have hpl:=Zjl x xs;obtain⟨wx,hwx⟩:∃wx,wr.alloc (.cells #[.int .i64 x.f,.int .i64 x.t,.int .i64 x.k,.int .i64 x.key] 68)=wx:=⟨_,rfl⟩;have ux:Upd No wr wx:=by rw[←hwx];exact(Upd.refl No wr).alloc _
   have bo:Blk wx wr.heap.size 68 [.int .i64 x.f,.int .i64 x.t,.int .i64 x.k,.int .i64 x.key]:=by rw[←hwx];exact Blk.new wr _ _
   have g0:=bo.cell 0;have g1:=bo.cell 1;have g2:=bo.cell 2;have g3:=bo.cell 3;simp only[Qz,Qs]at g0 g1 g2 g3;have HC:=Qh (ZoN x xs▸ZsH _ wx A5 c5 xs x (ZfD (Za hown ux (fun _ _=>id))) (by omega));have HUX:=Qh (hu.trans ux);unfold Edge.cells at HC;clear hs hdr hx ux bo hown
   go_wp2_with fail
   refine(HC.out).mono ?_;rintro e w2 ⟨A6,c6,rfl,ho6,hu6⟩;have HO6:=Qh (Zx ho6 HUX.out.size);have HU6:=Qh (HUX.out.trans hu6);clear ho6 hu6 HC;go_wp2
   go_roundg (gk-1)
   case measure=>omega
   case rel=>exact⟨k+1,A6,c6,_,by omega,by go_num,rfl,HS,by omega,HO6.out,HU6.out⟩
  ·obtain rfl:k=l.length:=by omega
   have hxR:xs=R:=by have:=hs.out;rw[List.drop_length]at this;exact this
   have HXR:=Qh hxR;clear hxR hs;go_wp2
   go_ret
   rw[←HXR.out];exact⟨A5,c5,rfl,hown,hu⟩
set_option maxRecDepth 100000 in
set_option maxHeartbeats 2000000 in
theorem ZtB (F:Nat→Prop) (w:World) (A:Option Addr) (c:Nat) (l:List Edge) (h:Walk F w A l) (hl:l.length≤100000):
  Calls Tryz.prog 57 #[.slice A l.length c] w (Zfv w (ZbE [] l)):=by
 have HA:=Qh h;obtain⟨R,hR⟩:∃R,ZbE [] l=R:=⟨_,rfl⟩;rw[hR];have HR:=Qh hR;clear h hR
 go_enter Tryz.func57,Tryz.ntmps57
 go_wp2
 go_loopg [3,8] l.length (fun gk s i wr=>∃(k:Nat) (A5:Option Addr) (c5:Nat) (xs:List Int),k+gk=l.length∧i= .int .i64 k∧s= .slice A5 xs.length c5∧Hid (ZbE xs (l.drop k)=R)∧xs.length≤2*k∧
  wr.ownsRow w.heap.size 3 1 (.slice A5 xs.length c5) xs.length (xs.map (Value.int .i64))∧Upd No w wr)
 case atStart=>exact⟨0,none,0,[],by omega,rfl,rfl,HR,by simp,World.ownsRow_nil _ _ _ _,Upd.refl _ _⟩
 case round=>
  obtain⟨k,A5,c5,xs,hgk,rfl,rfl,hs,hxl,hown,hu⟩:=hrel
  by_cases hlt:k<l.length
  ·obtain⟨ax,rfl,q0,q1,q2,q3⟩:=(HA.out.upd hu (fun _ _=>id)).at_ hlt;obtain⟨x,hx⟩:∃x,l[k]=x:=⟨_,rfl⟩;have hdr:=List.drop_eq_getElem_cons hlt;rw[hx]at q0 q1 q2 q3 hdr;have HS:=Qh (show ZbE (Zf x.t (Zf x.f xs)) (l.drop (k+1))=R by rw[←hs.out,hdr];rfl);have i1:(0:Int)≤(k:Int):=Qn _;have i2:(k:Int)<(l.length:Int):=by omega
   have hp1:=Zo x.f xs;have hp2:=Zo x.t (Zf x.f xs);obtain⟨wx,hwx⟩:∃wx,wr.alloc (.cells #[.int .i64 x.f,.int .i64 x.t,.int .i64 x.k,.int .i64 x.key] 68)=wx:=⟨_,rfl⟩;have ux:Upd No wr wx:=by rw[←hwx];exact(Upd.refl No wr).alloc _
   have bo:Blk wx wr.heap.size 68 [.int .i64 x.f,.int .i64 x.t,.int .i64 x.k,.int .i64 x.key]:=by rw[←hwx];exact Blk.new wr _ _
   have g0:∀W,Upd No wx W→W.cell? ⟨wr.heap.size,0,none⟩=some (.int .i64 x.f):=fun W u=>by have:=(bo.upd u id).cell 0;simpa using this
   have g1:∀W,Upd No wx W→W.cell? ⟨wr.heap.size,1,none⟩=some (.int .i64 x.t):=fun W u=>by have:=(bo.upd u id).cell 1;simpa using this
   have HP:=Qh (fun(W:World) (u:Upd No wx W)=>Zj4 _ W A5 c5 xs x.f (Ints.of_owned (Za hown (ux.trans u) (fun _ _=>id))) (by omega));have HP2:=Qh (fun(W:World) (A:Option Addr) (c:Nat) (ho:Ints (fun _=>True) W A (Zf x.f xs))=>Zj4 _ W A c (Zf x.f xs) x.t ho (by omega));have HUX:=Qh (hu.trans ux);clear hs hdr hx ux bo hown
   go_wp2_with fail
   refine wp_region_noPanic ?_;refine wp_region_held_drew (S:=(fun W'=>Upd No wx W')) (by kernel_rfl) ?_ (fun hHeld=> ?_)
   ·(first|exact(Upd.refl No _).drew|exact hHeld.trans hu6|exact hHeld.trans hu8)
   refine wpK 0 rfl ?_;refine wpK 1 rfl ?_;refine wpK 2 rfl ?_;refine wpK 4 rfl ?_;refine wpK 5 rfl ?_;refine wpR [3] ?_;refine wpC rfl (fun K hK=> ?_) AllReadyH.nil;go_simp
   (first
  |(go_at_call 83;refine(HP.out _ hHeld).mono ?_;rintro e w6 ⟨A6,c6,rfl,ho6,hu6⟩;have hz6:wx.heap.size≤w6.heap.size:=Nat.le_trans (Upd.size hHeld) hu6.size))
   try (go_wp2_with fail)
   refine hK.out _ _ ?_ (fun hHeld=> ?_)
   ·(first|exact(Upd.refl No _).drew|exact hHeld.trans hu6|exact hHeld.trans hu8)
   clear hK K
   try simp only[Act.put,sT,sS,sZ]
   refine wpR [6] ?_;refine wpC rfl (fun K hK=> ?_) AllReadyH.nil;go_simp
   (first
  |(go_at_call 83;refine(HP2.out _ A6 c6 ((Ints.of_owned ho6).weak (fun _ _ _=>trivial))).mono ?_;rintro e w8 ⟨A8,c8,rfl,ho8,hu8⟩))
   try (go_wp2_with fail)
   refine hK.out _ _ ?_ (fun hHeld=> ?_)
   ·(first|exact(Upd.refl No _).drew|exact hHeld.trans hu6|exact hHeld.trans hu8)
   clear hK K
   try simp only[Act.put,sT,sS,sZ]
   refine wpK 7 rfl ?_;refine wpD (NoPanic.normal ?_);have HO8:=Qh (Zx ho8 (Nat.le_trans HUX.out.size hz6));have HU8:=Qh (HUX.out.trans hHeld);clear ho8 ho6 hu6 hu8 hHeld HP HP2;go_wp2
   go_roundg (gk-1)
   case measure=>omega
   case rel=>exact⟨k+1,A8,c8,_,by omega,by go_num,rfl,HS,by omega,HO8.out,HU8.out⟩
  ·obtain rfl:k=l.length:=by omega
   have hxR:xs=R:=by have:=hs.out;rw[List.drop_length]at this;exact this
   have HXR:=Qh hxR;clear hxR hs;go_wp2
   go_ret
   rw[←HXR.out];exact⟨A5,c5,rfl,hown,hu⟩
end
/- Closed walks,the document's:the ids from which so many steps lead to one. -/
section
open Go.RowKit
theorem ZiL:SlT Tryz.prog 107 43 1 24:=SlT.mk_ Tryz.underlying107 (z:= .slice none 0 0) (by kernel_rfl) rfl (by omega)
theorem ZdS {a n c i:Nat} (e:Own (.slice (some ⟨a,0,none⟩) n c) i):a=i:=by simpa[Own,Value.ownBlock]using e
def RowOk (F:Nat→Prop) (w:World) (v:Value) (l:List Int):Prop:=∃B c,v= .slice B l.length c∧Ints F w B l
theorem RowOk.upd {F S:Nat→Prop} {w w':World} {v:Value} {l:List Int} (h:RowOk F w v l) (u:Upd S w w') (hn:∀i,F i→¬S i):RowOk F w' v l:=by
 obtain⟨B,c,e,h⟩:=h;exact⟨B,c,e,h.upd u hn⟩
theorem RowOk.weak {F G:Nat→Prop} {w:World} {v:Value} {l:List Int} (h:RowOk F w v l) (hg:∀i,i<w.heap.size→F i→G i):RowOk G w v l:=by
 obtain⟨B,c,e,h⟩:=h;exact⟨B,c,e,h.weak hg⟩
structure RowsOk (F:Nat→Prop) (w:World) (vs:List Value) (f:Nat→List Int):Prop where
 ok:∀(j:Nat) (h:j<vs.length),RowOk F w vs[j] (f j)
theorem RowsOk.upd {F S:Nat→Prop} {w w':World} {vs:List Value} {f:Nat→List Int} (h:RowsOk F w vs f) (u:Upd S w w') (hn:∀i,F i→¬S i):RowsOk F w' vs f:=⟨fun j hj=>(h.ok j hj).upd u hn⟩
theorem RowsOk.weak {F G:Nat→Prop} {w:World} {vs:List Value} {f:Nat→List Int} (h:RowsOk F w vs f) (hg:∀i,i<w.heap.size→F i→G i):RowsOk G w vs f:=⟨fun j hj=>(h.ok j hj).weak hg⟩
theorem RowsOk.app {F:Nat→Prop} {w:World} {vs:List Value} {f:Nat→List Int} {v:Value} (h:RowsOk F w vs f) (k:RowOk F w v (f vs.length)):RowsOk F w (vs++[v]) f:=⟨fun j hj=>by
 rw[List.length_append,List.length_singleton]at hj
 by_cases h1:j<vs.length
 ·rw[List.getElem_append_left h1];exact h.ok j h1
 ·have h2:j=vs.length:=by omega
  subst h2;rw[List.getElem_append_right (Nat.le_refl _)]
  simpa using k⟩
structure RowsAt (w:World) (A:Option Addr) (n:Nat) (f:Nat→List Int):Prop where
 at_:∀j,j<n→∃ad B c,A=some ad∧w.cell? (ad.add j)=some (.slice B (f j).length c)∧Ints (fun _=>True) w B (f j)
theorem RowsAt.upd {w w':World} {A:Option Addr} {n:Nat} {f:Nat→List Int} (h:RowsAt w A n f) (u:Upd No w w'):RowsAt w' A n f:=⟨fun j hj=>by
 obtain⟨ad,B,c,e,h1,h2⟩:=h.at_ j hj;exact⟨ad,B,c,e,u.keepNo h1,h2.upd u (fun _ _=>id)⟩⟩
theorem ZdG {w:World} {base:Nat} {A:Option Addr} {n c:Nat} {vs:List Value} {F:Nat→Prop} {f:Nat→List Int} (ho:w.ownsRow base 43 1 (.slice A n c) n vs) (hv:vs.length=n) (h:RowsOk F w vs f):RowsAt w A n f:=⟨fun j hj=>by
 obtain⟨g,cur,rfl,hgb,hB,hnc,hcl,hct,hcm⟩:=Zio ho (by omega);obtain⟨B,c',e,hi⟩:=h.ok j (by omega);refine⟨_,B,c',rfl,?_,hi.weak (fun _ _ _=>trivial)⟩;rw[Zit,Nat.zero_add,hB.cell];have h1:(cur.take (n*1))[j]? =some (.slice B (f j).length c'):=by rw[hct,Qg (by omega),e]
 rw[List.getElem?_take]at h1
 split at h1
 ·exact h1
 ·cases h1⟩
structure BackAt (w:World) (v:Value) (steps:Nat) (f:Nat→List Int×List Int):Prop where
 is_:∃A1 c1 A2 c2,v= .agg #[.slice A1 (steps+1) c1,.slice A2 (steps+1) c2]∧RowsAt w A1 (steps+1) (fun j=>(f j).1)∧RowsAt w A2 (steps+1) (fun j=>(f j).2)
theorem ZiN (must:Int) (l:List Edge) (tgt:Int):∀n,(Zi must l tgt n).1.length≤2*l.length+1∧(Zi must l tgt n).2.length≤2*l.length+1:=by
 have h:∀(pa pn:List Int) (m:List Edge) (a b:List Int),(Zah must pa pn a b m).1.length≤a.length+2*m.length∧(Zah must pa pn a b m).2.length≤b.length+2*m.length:=by
  intro pa pn m
  induction m with
  |nil=>intro a b;simp[Zah]
  |cons e m ih=>
   intro a b;have h1:=ih (Zcw pa a e) (Zcv must pa pn b e)
   have h2:(Zcw pa a e).length≤a.length+1:=by
    unfold Zcw
    split
    ·exact Zo _ _
    ·omega
   have h3:∀x:List Int,(if (decide (e.t∈pa)&&Zm must e.k)=true then Zf e.f x else x).length≤x.length+1:=by
    intro x
    split
    ·exact Zo _ _
    ·omega
   have h4:(Zcv must pa pn b e).length≤b.length+2:=by
    unfold Zcv;have:=h3 b
    split
    ·have:=Zo e.f (if (decide (e.t∈pa)&&Zm must e.k)=true then Zf e.f b else b);omega
    ·omega
   show(Zah must pa pn (Zcw pa a e) (Zcv must pa pn b e) m).1.length≤_∧(Zah must pa pn (Zcw pa a e) (Zcv must pa pn b e) m).2.length≤_
   simp only[List.length_cons];omega
 intro n
 cases n with
 |zero=>exact⟨by show[tgt].length≤_;simp,by show([]:List Int).length≤_;simp⟩
 |succ n=>
  have:=h (Zi must l tgt n).1 (Zi must l tgt n).2 l [] [];simp only[List.length_nil]at this
  show(Zah must (Zi must l tgt n).1 (Zi must l tgt n).2 [] [] l).1.length≤_∧(Zah must (Zi must l tgt n).1 (Zi must l tgt n).2 [] [] l).2.length≤_
  omega
end
/- Closed walks,the document's:the search is walked. -/
section
open Go.RowKit
def ZdP (g:Nat) (A1 A2:Option Addr):Nat→Prop:=fun i=>(¬Own (.slice A1 0 0) i∧¬Own (.slice A2 0 0) i)∧(i≠g∧g<i+4)
theorem Zaf (w:World) (F:Nat→Prop) (A:Option Addr) (c:Nat) (l:List Int) (a:Int) (h:Ints F w A l) (hl:l.length≤4398046511103) {v:Bool} (hv:decide (a∈l)=v):
  Calls Tryz.prog 60 #[.slice A l.length c,.int .i64 a] w fun e w'=>e= .returned (.bool v)∧Upd No w w':=by
 subst hv;refine(ZsB w F A c l a h hl).mono ?_;rintro e w' ⟨rfl,rfl⟩;exact⟨rfl,Upd.refl _ _⟩
theorem Zbc (w:World) (mask kind:Int) {v:Bool} (hv:Zm mask kind=v):Calls Tryz.prog 58 #[.int .i64 mask,.int .i64 kind] w fun e w'=>e= .returned (.bool v)∧Upd No w w':=by
 subst hv;exact Znh w mask kind
theorem Zhx (G:Nat→Prop) (base:Nat) (w:World) (A:Option Addr) (c:Nat) (l:List Int) (n:Int) (h:Ints G w A l) (hl:l.length≤100000000) (hb:base≤w.heap.size):
  Calls Tryz.prog 83 #[.slice A l.length c,.int .i64 n] w fun e w'=>∃A' c',e= .returned (.slice A' (Zf n l).length c')∧Ints (fun i=>base≤i) w' A' (Zf n l)∧Upd No w w':=by
 refine(Zj4 G w A c l n h hl).mono ?_;rintro e w' ⟨A',c',rfl,ho,hu⟩;exact⟨A',c',rfl,(Ints.of_owned ho).weak (fun i _ h=>by omega),hu⟩
theorem ZcJ {pa a:List Int} {e:Edge} {c1:Bool} (h1:decide (e.t∈pa)=c1):Zcw pa a e=if c1=true then Zf e.f a else a:=by subst h1;rfl
theorem ZcI {must:Int} {pa pn b:List Int} {e:Edge} {c1 c2 c3:Bool} (h1:decide (e.t∈pa)=c1) (h2:Zm must e.k=c2) (h3:decide (e.t∈pn)=c3):
  Zcv must pa pn b e=if c3=true then Zf e.f (if (c1&&c2)=true then Zf e.f b else b) else (if (c1&&c2)=true then Zf e.f b else b):=by subst h1 h2 h3;rfl
set_option maxRecDepth 100000 in
set_option maxHeartbeats 16000000 in
theorem Zrt (F:Nat→Prop) (w:World) (A:Option Addr) (c:Nat) (l:List Edge) (must tgt:Int) (steps:Nat) (h:Walk F w A l) (hl:l.length≤10000) (hs:steps≤100000):
  Calls Tryz.prog 59 #[.slice A l.length c,.int .i64 must,.int .i64 tgt,.int .i64 (steps:Int)] w fun e w'=>∃v,e= .returned v∧BackAt w' v steps (Zi must l tgt)∧Upd No w w':=by
 obtain⟨wb,hwb⟩:∃wb,((((w.alloc (.cells #[.slice none 0 0,.slice none 0 0] 109)).alloc (.cells #[.int .i64 tgt] 3)).alloc (.cells #[.slice (some ⟨w.heap.size+1,0,none⟩) 1 1] 43)).alloc (.cells #[.slice none 0 0] 43)).alloc
  (.cells #[.slice (some ⟨w.heap.size+1+1,0,none⟩) 1 1,.slice (some ⟨w.heap.size+1+1+1,0,none⟩) 1 1] 109)=wb:=⟨_,rfl⟩
 have u0:Upd No w wb:=by rw[←hwb];exact(((((Upd.refl No w).alloc _).alloc _).alloc _).alloc _).alloc _
 have bR:Blk wb w.heap.size 109 [.slice none 0 0,.slice none 0 0]:=by rw[←hwb];exact((((Blk.new w _ _).alloc _).alloc _).alloc _).alloc _
 have bX:Blk wb (w.heap.size+1) 3 [.int .i64 tgt]:=by
  rw[←hwb];have:=(((Blk.new (w.alloc (.cells #[.slice none 0 0,.slice none 0 0] 109)) 3 [.int .i64 tgt]).alloc (.cells #[.slice (some ⟨w.heap.size+1,0,none⟩) 1 1] 43)).alloc (.cells #[.slice none 0 0] 43)).alloc (.cells #[.slice (some ⟨w.heap.size+1+1,0,none⟩) 1 1,.slice (some ⟨w.heap.size+1+1+1,0,none⟩) 1 1] 109)
  simpa using this
 have b1:Blk wb (w.heap.size+1+1) 43 [.slice (some ⟨w.heap.size+1,0,none⟩) 1 1]:=by
  rw[←hwb];have:=((Blk.new ((w.alloc (.cells #[.slice none 0 0,.slice none 0 0] 109)).alloc (.cells #[.int .i64 tgt] 3)) 43 [.slice (some ⟨w.heap.size+1,0,none⟩) 1 1]).alloc (.cells #[.slice none 0 0] 43)).alloc (.cells #[.slice (some ⟨w.heap.size+1+1,0,none⟩) 1 1,.slice (some ⟨w.heap.size+1+1+1,0,none⟩) 1 1] 109)
  simpa using this
 have b2:Blk wb (w.heap.size+1+1+1) 43 [.slice none 0 0]:=by
  rw[←hwb];have:=(Blk.new (((w.alloc (.cells #[.slice none 0 0,.slice none 0 0] 109)).alloc (.cells #[.int .i64 tgt] 3)).alloc (.cells #[.slice (some ⟨w.heap.size+1,0,none⟩) 1 1] 43)) 43 [.slice none 0 0]).alloc (.cells #[.slice (some ⟨w.heap.size+1+1,0,none⟩) 1 1,.slice (some ⟨w.heap.size+1+1+1,0,none⟩) 1 1] 109)
  simpa using this
 have bB:Blk wb (w.heap.size+1+1+1+1) 109 [.slice (some ⟨w.heap.size+1+1,0,none⟩) 1 1,.slice (some ⟨w.heap.size+1+1+1,0,none⟩) 1 1]:=by
  rw[←hwb];have:=Blk.new ((((w.alloc (.cells #[.slice none 0 0,.slice none 0 0] 109)).alloc (.cells #[.int .i64 tgt] 3)).alloc (.cells #[.slice (some ⟨w.heap.size+1,0,none⟩) 1 1] 43)).alloc (.cells #[.slice none 0 0] 43)) 109 [.slice (some ⟨w.heap.size+1+1,0,none⟩) 1 1,.slice (some ⟨w.heap.size+1+1+1,0,none⟩) 1 1]
  simpa using this
 have ho1:wb.ownsRow (w.heap.size+1) 43 1 (.slice (some ⟨w.heap.size+1+1,0,none⟩) 1 1) 1 [.slice (some ⟨w.heap.size+1,0,none⟩) 1 1]:=ZdK b1 (by omega) (by omega) rfl rfl (by decide) rfl;have ho2:wb.ownsRow (w.heap.size+1) 43 1 (.slice (some ⟨w.heap.size+1+1+1,0,none⟩) 1 1) 1 [.slice none 0 0]:=ZdK b2 (by omega) (by omega) rfl rfl (by decide) rfl
 have hR1:RowsOk (ZdP (w.heap.size+1+1+1+1) (some ⟨w.heap.size+1+1,0,none⟩) (some ⟨w.heap.size+1+1+1,0,none⟩)) wb [.slice (some ⟨w.heap.size+1,0,none⟩) 1 1] (fun j=>(Zi must l tgt j).1):=⟨fun j hj=>by
  have:j=0:=by simpa using hj
  subst this;exact⟨_,_,rfl,(Zge (xs:=[tgt]) bX).weak (fun i _ e=>⟨⟨fun e2=>by have:=ZdS e2;omega,fun e2=>by have:=ZdS e2;omega⟩,⟨by omega,by omega⟩⟩)⟩⟩
 have hR2:RowsOk (ZdP (w.heap.size+1+1+1+1) (some ⟨w.heap.size+1+1,0,none⟩) (some ⟨w.heap.size+1+1+1,0,none⟩)) wb [.slice none 0 0] (fun j=>(Zi must l tgt j).2):=⟨fun j hj=>by
  have:j=0:=by simpa using hj
  subst this;exact⟨none,0,rfl,fun h=>absurd rfl h⟩⟩
 have HW:=Qh (fun(W:World) (u:Upd No w W)=>h.upd u (fun _ _=>id));have HRL:=Qh (ZiN must l tgt);have U0:=Qh u0;have BB:=Qh bB;have BR:=Qh bR;have HO1:=Qh ho1;have HO2:=Qh ho2;have HR1:=Qh hR1;have HR2:=Qh hR2;clear h u0 bR bX b1 b2 bB ho1 ho2 hR1 hR2
 go_enter Tryz.func59,Tryz.ntmps59
 go_wp2;clear hwb
 go_loopg [10] steps (fun gk i wr=>∃(n:Nat) (A1:Option Addr) (c1:Nat) (vs1:List Value) (A2:Option Addr) (c2:Nat) (vs2:List Value),n+gk=steps∧i= .int .i64 ((n:Int)+1)∧Hid (vs1.length=n+1∧vs2.length=n+1)∧
  Hid (Blk wr (w.heap.size+1+1+1+1) 109 [.slice A1 (n+1) c1,.slice A2 (n+1) c2])∧Hid (Blk wr w.heap.size 109 [.slice none 0 0,.slice none 0 0])∧
  Hid (wr.ownsRow (w.heap.size+1) 43 1 (.slice A1 (n+1) c1) (n+1) vs1)∧Hid (wr.ownsRow (w.heap.size+1) 43 1 (.slice A2 (n+1) c2) (n+1) vs2)∧
  Hid (∀i,Own (.slice A1 0 0) i→¬Own (.slice A2 0 0) i∧i≠w.heap.size+1+1+1+1)∧Hid (∀i,Own (.slice A2 0 0) i→i≠w.heap.size+1+1+1+1)∧
  Hid (RowsOk (ZdP (w.heap.size+1+1+1+1) A1 A2) wr vs1 (fun j=>(Zi must l tgt j).1))∧Hid (RowsOk (ZdP (w.heap.size+1+1+1+1) A1 A2) wr vs2 (fun j=>(Zi must l tgt j).2))∧Upd No w wr)
 case atStart=>exact⟨0,_,1,_,_,1,_,by omega,by first|rfl|go_num,Qh ⟨rfl,rfl⟩,BB,BR,HO1,HO2,Qh (fun i e=>⟨fun e2=>by have:=ZdS e;have:=ZdS e2;omega,by have:=ZdS e;omega⟩),Qh (fun i e=>by have:=ZdS e;omega),HR1,HR2,U0.out⟩
 case round=>
  obtain⟨n,A1,c1,vs1,A2,c2,vs2,hgk,rfl,HVL,BN,BRR,HO1,HO2,HD,HD2,HR1,HR2,hu⟩:=hrel;obtain⟨wo,hwo⟩:∃wo,wo=wr:=⟨_,rfl⟩;subst hwo;obtain⟨g0,hg0⟩:∃g0,g0=gk:=⟨_,rfl⟩;subst hg0
  by_cases hlt:n<steps
  ·have e0:decide ((n:Int)+1≤(steps:Int))=true:=decide_eq_true (by omega);obtain⟨ad1,P,cp,rfl,y1,hP⟩:=(ZdG HO1.out HVL.out.1 HR1.out).at_ n (by omega);obtain⟨ad2,Q,cq,rfl,y2,hQ⟩:=(ZdG HO2.out HVL.out.2 HR2.out).at_ n (by omega);have hln:=HRL.out n;obtain⟨pa,hpa⟩:∃pa,(Zi must l tgt n).1=pa:=⟨_,rfl⟩;obtain⟨pn,hpn⟩:∃pn,(Zi must l tgt n).2=pn:=⟨_,rfl⟩;obtain⟨RR,hRR⟩:∃RR,Zi must l tgt (n+1)=RR:=⟨_,rfl⟩;have hst0:Zah must pa pn [] [] l=RR:=by rw[←hRR,←hpa,←hpn];rfl
   rw[hpa]at y1 hP hln;rw[hpn]at y2 hQ hln;have HLN:=Qh hln;have HRR:=Qh hRR;have HST0:=Qh hst0;have HPP:=Qh (fun(W:World) (u:Upd No wo W)=>hP.upd u (fun _ _=>id));have HQQ:=Qh (fun(W:World) (u:Upd No wo W)=>hQ.upd u (fun _ _=>id));have i1:(0:Int)≤(n:Int):=Qn _;have i2:(n:Int)<(n:Int)+1:=by omega
   have i4:((n+1:Nat):Int)=(n:Int)+1:=by omega
   have i3:IntKind.i64.wrap ((n:Int)+1-1)=(n:Int):=by rw[show(n:Int)+1-1=(n:Int) by omega];exact IntWalk.i64_in _ (by omega)
   have i5:IntKind.i64.wrap (n:Int)=(n:Int):=IntWalk.i64_in _ (by omega);have BL:=Qh BN.out.lt;have HUO:=Qh hu;clear hln hpa hpn hRR hst0 hP hQ;go_wp2
   go_loopg [11,12,27] l.length (fun gj sa sb i wr=>∃(k:Nat) (A5:Option Addr) (c5:Nat) (a:List Int) (A6:Option Addr) (c6:Nat) (b:List Int),k+gj=l.length∧i= .int .i64 k∧sa= .slice A5 a.length c5∧sb= .slice A6 b.length c6∧
    Hid (Zah must pa pn a b (l.drop k)=RR)∧Hid (a.length≤k∧b.length≤2*k)∧Ints (fun i=>wo.heap.size≤i) wr A5 a∧Ints (fun i=>wo.heap.size≤i) wr A6 b∧Upd No wo wr)
   case atStart=>exact⟨0,none,0,[],none,0,[],by omega,rfl,rfl,rfl,HST0,Qh ⟨by simp,by simp⟩,fun h=>absurd rfl h,fun h=>absurd rfl h,Upd.refl _ _⟩
   case round=>
    obtain⟨k,A5,c5,a,A6,c6,b,hgj,rfl,rfl,rfl,HS0,HLL,hia,hib,huj⟩:=hrel
    by_cases hk:k<l.length
    ·obtain⟨ax,rfl,q0,q1,q2,q3⟩:=(HW.out wr (HUO.out.trans huj)).at_ hk;obtain⟨x,hxx⟩:∃x,l[k]=x:=⟨_,rfl⟩;have hdr:=List.drop_eq_getElem_cons hk;rw[hxx]at q0 q1 q2 q3 hdr;have HS:=Qh (show Zah must pa pn (Zcw pa a x) (Zcv must pa pn b x) (l.drop (k+1))=RR by rw[←HS0.out,hdr];rfl);have j1:(0:Int)≤(k:Int):=Qn _;have j2:(k:Int)<(l.length:Int):=by omega
     obtain⟨wx,hwx⟩:∃wx,wr.alloc (.cells #[.int .i64 x.f,.int .i64 x.t,.int .i64 x.k,.int .i64 x.key] 68)=wx:=⟨_,rfl⟩;have ux:Upd No wr wx:=by rw[←hwx];exact(Upd.refl No wr).alloc _
     have bo:Blk wx wr.heap.size 68 [.int .i64 x.f,.int .i64 x.t,.int .i64 x.k,.int .i64 x.key]:=by rw[←hwx];exact Blk.new wr _ _
     have huw:=huj.trans ux;have bw:=BN.out.upd huw id;have g0':∀W,Upd No wx W→W.cell? ⟨wr.heap.size,0,none⟩=some (.int .i64 x.f):=fun W u=>by have:=(bo.upd u id).cell 0;simpa using this
     have g1:∀W,Upd No wx W→W.cell? ⟨wr.heap.size,1,none⟩=some (.int .i64 x.t):=fun W u=>by have:=(bo.upd u id).cell 1;simpa using this
     have g2:∀W,Upd No wx W→W.cell? ⟨wr.heap.size,2,none⟩=some (.int .i64 x.k):=fun W u=>by have:=(bo.upd u id).cell 2;simpa using this
     have k0:∀W,Upd No wx W→W.cell? ⟨w.heap.size+1+1+1+1,0,none⟩=some (.slice (some ad1) (n+1) c1):=fun W u=>by have:=(bw.upd u id).cell 0;simpa using this
     have k1:∀W,Upd No wx W→W.cell? ⟨w.heap.size+1+1+1+1,1,none⟩=some (.slice (some ad2) (n+1) c2):=fun W u=>by have:=(bw.upd u id).cell 1;simpa using this
     have r1:∀W,Upd No wx W→W.cell? (ad1.add n)=some (.slice P pa.length cp):=fun W u=>(huw.trans u).keepNo y1
     have r2:∀W,Upd No wx W→W.cell? (ad2.add n)=some (.slice Q pn.length cq):=fun W u=>(huw.trans u).keepNo y2
     have HQ:=Qh (fun(W:World) (u:Upd No wx W)=>HQQ.out W (huw.trans u));have HUW:=Qh huw;have hxr:Upd No wx wx:=Upd.refl _ _;have HIA:=Qh (hia.upd ux (fun _ _=>id));have HIB:=Qh (hib.upd ux (fun _ _=>id));have HBT:=Qh (fun(W:World) (v:Bool) (hv:Zm must x.k=v)=>Zbc W must x.k hv);clear hdr hxx ux bo bw hia hib huw
     cases hta:decide (x.t∈pa)
     ·have HIN1:=Qh (fun(W:World) (u:Upd No wx W)=>Zaf W _ P cp pa x.t (HPP.out W (HUW.out.trans u)) (by have:=HLN.out;omega) hta);have HTA:=Qh hta;obtain⟨bk,hbk0⟩:∃bk,Zm must x.k=bk:=⟨_,rfl⟩;have HBK:=Qh hbk0;clear hbk0;clear hta;go_wp2;clear hwx q0 q1 q2 q3;refine wp_region_noPanic ?_;refine wp_region_held_drew (S:=(fun W'=>Upd No wx W')) (by kernel_rfl) ?_ (fun hHeld=> ?_)
      ·(first|exact(Upd.refl No _).drew|exact hHeld.trans hu4)
      refine wpK 0 rfl ?_;refine wpK 1 rfl ?_;refine wpK 2 rfl ?_;refine wpK 3 rfl ?_;refine wpK 4 rfl ?_;refine wpK 5 rfl ?_;refine wpK 6 rfl ?_;refine wpK 7 rfl ?_;refine wpR [8] ?_;refine wpC rfl (fun K hK=> ?_) AllReadyH.nil;go_simp
      (first
  |(go_at_call 60;refine(HIN1.out _ hHeld).mono ?_;rintro e w4 ⟨rfl,hu4⟩))
      try (go_wp2_with fail)
      refine hK.out _ _ ?_ (fun hHeld=> ?_)
      ·(first|exact(Upd.refl No _).drew|exact hHeld.trans hu4)
      clear hK K
      try simp only[Act.put,sT,sS,sZ]
      refine wpD (NoPanic.normal ?_);have H4:=Qh hHeld;have ha4:=Qh (HIA.out.upd H4.out (fun _ _=>id));have hb4:=Qh (HIB.out.upd H4.out (fun _ _=>id));have hx4:=hHeld;clear hHeld hu4
      cases htn:decide (x.t∈pn)
      ·have HIN2:=Qh (fun(W:World) (u:Upd No wx W)=>Zaf W _ Q cq pn x.t (HQ.out W u) (by have:=HLN.out;omega) htn);have HST:=Qh (show Zah must pa pn a b (l.drop (k+1))=RR by have:=HS.out;rw[ZcJ HTA.out,ZcI HTA.out HBK.out htn]at this;exact this);clear htn;go_wp2;refine wp_region_noPanic ?_;refine wp_region_held_drew (S:=(fun W'=>Upd No wx W')) (by kernel_rfl) ?_ (fun hHeld=> ?_)
       ·(first|exact(Upd.drew H4.out)|exact hHeld.trans hu9)
       refine wpK 0 rfl ?_;refine wpK 1 rfl ?_;refine wpK 2 rfl ?_;refine wpK 3 rfl ?_;refine wpK 4 rfl ?_;refine wpK 5 rfl ?_;refine wpK 6 rfl ?_;refine wpK 7 rfl ?_;refine wpR [8] ?_;refine wpC rfl (fun K hK=> ?_) AllReadyH.nil;go_simp
       (first
  |(go_at_call 60;refine(HIN2.out _ hHeld).mono ?_;rintro e w9 ⟨rfl,hu9⟩;have hu9':Upd No w4 w9:=Upd.of_drew hu9))
       try (go_wp2_with fail)
       refine hK.out _ _ ?_ (fun hHeld=> ?_)
       ·(first|exact(Upd.drew H4.out)|exact hHeld.trans hu9)
       clear hK K
       try simp only[Act.put,sT,sS,sZ]
       refine wpD (NoPanic.normal ?_);have HU9:=Qh hHeld;have HI9a:=Qh (Ints.upd ha4.out hu9' (fun _ _=>id));have HI9b:=Qh (Ints.upd hb4.out hu9' (fun _ _=>id));clear hHeld hu9 hu9';go_wp2
       go_roundg (gk-1)
       case measure=>omega
       case rel=>exact⟨k+1,A5,c5,a,A6,c6,b,by omega,by go_num,rfl,rfl,HST,Qh (by have:=HLL.out;have:=Zo x.f a;have:=Zo x.f b;refine⟨?_,?_⟩<;>omega),HI9a.out,HI9b.out,HUW.out.trans HU9.out⟩
      ·have HIN2:=Qh (fun(W:World) (u:Upd No wx W)=>Zaf W _ Q cq pn x.t (HQ.out W u) (by have:=HLN.out;omega) htn);have HST:=Qh (show Zah must pa pn a (Zf x.f b) (l.drop (k+1))=RR by have:=HS.out;rw[ZcJ HTA.out,ZcI HTA.out HBK.out htn]at this;exact this);have HPT:=Qh (fun(W:World) (u:Upd No w4 W)=>Zhx _ wo.heap.size W A6 c6 b x.f (Ints.upd hb4.out u (fun _ _=>id)) (by have:=HLL.out;have:=Zo x.f b;omega) (Nat.le_trans HUW.out.size (Nat.le_trans (Upd.size H4.out) u.size)));clear htn;go_wp2;refine wp_region_noPanic ?_;refine wp_region_held_drew (S:=(fun W'=>Upd No wx W')) (by kernel_rfl) ?_ (fun hHeld=> ?_)
       ·(first|exact(Upd.drew H4.out)|exact hHeld.trans hu9)
       refine wpK 0 rfl ?_;refine wpK 1 rfl ?_;refine wpK 2 rfl ?_;refine wpK 3 rfl ?_;refine wpK 4 rfl ?_;refine wpK 5 rfl ?_;refine wpK 6 rfl ?_;refine wpK 7 rfl ?_;refine wpR [8] ?_;refine wpC rfl (fun K hK=> ?_) AllReadyH.nil;go_simp
       (first
  |(go_at_call 60;refine(HIN2.out _ hHeld).mono ?_;rintro e w9 ⟨rfl,hu9⟩;have hu9':Upd No w4 w9:=Upd.of_drew hu9))
       try (go_wp2_with fail)
       refine hK.out _ _ ?_ (fun hHeld=> ?_)
       ·(first|exact(Upd.drew H4.out)|exact hHeld.trans hu9)
       clear hK K
       try simp only[Act.put,sT,sS,sZ]
       refine wpD (NoPanic.normal ?_);have HU9:=Qh hHeld;have HI9a:=Qh (Ints.upd ha4.out hu9' (fun _ _=>id));have hx9:=hHeld;clear hHeld hu9
       go_wp2_with fail
       refine(HPT.out w9 hu9').mono ?_;rintro e w10 ⟨A10,c10,rfl,hi10,hu10⟩;have HI10a:=Qh (HI9a.out.upd hu10 (fun _ _=>id));have HI10b:=Qh hi10;have HU10:=Qh (HU9.out.trans hu10);clear hi10 hu10 hx9;go_wp2
       go_roundg (gk-1)
       case measure=>omega
       case rel=>exact⟨k+1,A5,c5,a,A10,c10,Zf x.f b,by omega,by go_num,rfl,rfl,HST,Qh (by have:=HLL.out;have:=Zo x.f a;have:=Zo x.f b;have:=Zo x.f b;refine⟨?_,?_⟩<;>omega),HI10a.out,HI10b.out,HUW.out.trans HU10.out⟩
     ·have HIN1:=Qh (fun(W:World) (u:Upd No wx W)=>Zaf W _ P cp pa x.t (HPP.out W (HUW.out.trans u)) (by have:=HLN.out;omega) hta);have HPA:=Qh (fun(W:World) (u:Upd No wx W)=>Zhx _ wo.heap.size W A5 c5 a x.f (HIA.out.upd u (fun _ _=>id)) (by have:=HLL.out;omega) (Nat.le_trans HUW.out.size u.size));have HPB:=Qh (fun(W:World) (u:Upd No wx W)=>Zhx _ wo.heap.size W A6 c6 b x.f (HIB.out.upd u (fun _ _=>id)) (by have:=HLL.out;omega) (Nat.le_trans HUW.out.size u.size));have HTA:=Qh hta;clear hta;go_wp2;clear hwx q0 q1 q2 q3;refine wp_region_noPanic ?_;refine wp_region_held_drew (S:=(fun W'=>Upd No wx W')) (by kernel_rfl) ?_ (fun hHeld=> ?_)
      ·(first|exact(Upd.refl No _).drew|exact hHeld.trans hu4)
      refine wpK 0 rfl ?_;refine wpK 1 rfl ?_;refine wpK 2 rfl ?_;refine wpK 3 rfl ?_;refine wpK 4 rfl ?_;refine wpK 5 rfl ?_;refine wpK 6 rfl ?_;refine wpK 7 rfl ?_;refine wpR [8] ?_;refine wpC rfl (fun K hK=> ?_) AllReadyH.nil;go_simp
      (first
  |(go_at_call 60;refine(HIN1.out _ hHeld).mono ?_;rintro e w4 ⟨rfl,hu4⟩))
      try (go_wp2_with fail)
      refine hK.out _ _ ?_ (fun hHeld=> ?_)
      ·(first|exact(Upd.refl No _).drew|exact hHeld.trans hu4)
      clear hK K
      try simp only[Act.put,sT,sS,sZ]
      refine wpD (NoPanic.normal ?_);have hx4:Upd No wx w4:=hHeld;clear hHeld hu4
      go_wp2_with fail
      refine(HPA.out w4 hx4).mono ?_;rintro e w5 ⟨A7,c7,rfl,hi7,hu5⟩;have hx5:=hx4.trans hu5
      cases hbk:Zm must x.k
      ·have HB6:=Qh (HBT.out w5 false hbk);have HBK:=Qh hbk;clear hbk
       go_wp2_with fail
       refine(HB6.out).mono ?_;rintro e w6 ⟨rfl,hu6⟩;have hx6:=hx5.trans hu6;have H6:=Qh hx6;have ha6:=Qh (hi7.upd hu6 (fun _ _=>id));have hb6:=Qh (HIB.out.upd hx6 (fun _ _=>id));clear hi7 hu5 hu6 hx4 hx5
       cases htn:decide (x.t∈pn)
       ·have HIN2:=Qh (fun(W:World) (u:Upd No wx W)=>Zaf W _ Q cq pn x.t (HQ.out W u) (by have:=HLN.out;omega) htn);have HST:=Qh (show Zah must pa pn (Zf x.f a) b (l.drop (k+1))=RR by have:=HS.out;rw[ZcJ HTA.out,ZcI HTA.out HBK.out htn]at this;exact this);clear htn;go_wp2;refine wp_region_noPanic ?_;refine wp_region_held_drew (S:=(fun W'=>Upd No wx W')) (by kernel_rfl) ?_ (fun hHeld=> ?_)
        ·(first|exact(Upd.drew H6.out)|exact hHeld.trans hu9)
        refine wpK 0 rfl ?_;refine wpK 1 rfl ?_;refine wpK 2 rfl ?_;refine wpK 3 rfl ?_;refine wpK 4 rfl ?_;refine wpK 5 rfl ?_;refine wpK 6 rfl ?_;refine wpK 7 rfl ?_;refine wpR [8] ?_;refine wpC rfl (fun K hK=> ?_) AllReadyH.nil;go_simp
        (first
  |(go_at_call 60;refine(HIN2.out _ hHeld).mono ?_;rintro e w9 ⟨rfl,hu9⟩;have hu9':Upd No w6 w9:=Upd.of_drew hu9))
        try (go_wp2_with fail)
        refine hK.out _ _ ?_ (fun hHeld=> ?_)
        ·(first|exact(Upd.drew H6.out)|exact hHeld.trans hu9)
        clear hK K
        try simp only[Act.put,sT,sS,sZ]
        refine wpD (NoPanic.normal ?_);have HU9:=Qh hHeld;have HI9a:=Qh (Ints.upd ha6.out hu9' (fun _ _=>id));have HI9b:=Qh (Ints.upd hb6.out hu9' (fun _ _=>id));clear hHeld hu9 hu9';go_wp2
        go_roundg (gk-1)
        case measure=>omega
        case rel=>exact⟨k+1,A7,c7,(Zf x.f a),A6,c6,b,by omega,by go_num,rfl,rfl,HST,Qh (by have:=HLL.out;have:=Zo x.f a;have:=Zo x.f b;refine⟨?_,?_⟩<;>omega),HI9a.out,HI9b.out,HUW.out.trans HU9.out⟩
       ·have HIN2:=Qh (fun(W:World) (u:Upd No wx W)=>Zaf W _ Q cq pn x.t (HQ.out W u) (by have:=HLN.out;omega) htn);have HST:=Qh (show Zah must pa pn (Zf x.f a) (Zf x.f b) (l.drop (k+1))=RR by have:=HS.out;rw[ZcJ HTA.out,ZcI HTA.out HBK.out htn]at this;exact this);have HPT:=Qh (fun(W:World) (u:Upd No w6 W)=>Zhx _ wo.heap.size W A6 c6 b x.f (Ints.upd hb6.out u (fun _ _=>id)) (by have:=HLL.out;have:=Zo x.f b;omega) (Nat.le_trans HUW.out.size (Nat.le_trans (Upd.size H6.out) u.size)));clear htn;go_wp2;refine wp_region_noPanic ?_;refine wp_region_held_drew (S:=(fun W'=>Upd No wx W')) (by kernel_rfl) ?_ (fun hHeld=> ?_)
        ·(first|exact(Upd.drew H6.out)|exact hHeld.trans hu9)
        refine wpK 0 rfl ?_;refine wpK 1 rfl ?_;refine wpK 2 rfl ?_;refine wpK 3 rfl ?_;refine wpK 4 rfl ?_;refine wpK 5 rfl ?_;refine wpK 6 rfl ?_;refine wpK 7 rfl ?_;refine wpR [8] ?_;refine wpC rfl (fun K hK=> ?_) AllReadyH.nil;go_simp
        (first
  |(go_at_call 60;refine(HIN2.out _ hHeld).mono ?_;rintro e w9 ⟨rfl,hu9⟩;have hu9':Upd No w6 w9:=Upd.of_drew hu9))
        try (go_wp2_with fail)
        refine hK.out _ _ ?_ (fun hHeld=> ?_)
        ·(first|exact(Upd.drew H6.out)|exact hHeld.trans hu9)
        clear hK K
        try simp only[Act.put,sT,sS,sZ]
        refine wpD (NoPanic.normal ?_);have HU9:=Qh hHeld;have HI9a:=Qh (Ints.upd ha6.out hu9' (fun _ _=>id));have hx9:=hHeld;clear hHeld hu9
        go_wp2_with fail
        refine(HPT.out w9 hu9').mono ?_;rintro e w10 ⟨A10,c10,rfl,hi10,hu10⟩;have HI10a:=Qh (HI9a.out.upd hu10 (fun _ _=>id));have HI10b:=Qh hi10;have HU10:=Qh (HU9.out.trans hu10);clear hi10 hu10 hx9;go_wp2
        go_roundg (gk-1)
        case measure=>omega
        case rel=>exact⟨k+1,A7,c7,(Zf x.f a),A10,c10,Zf x.f b,by omega,by go_num,rfl,rfl,HST,Qh (by have:=HLL.out;have:=Zo x.f a;have:=Zo x.f b;have:=Zo x.f b;refine⟨?_,?_⟩<;>omega),HI10a.out,HI10b.out,HUW.out.trans HU10.out⟩
      ·have HB6:=Qh (HBT.out w5 true hbk);have HBK:=Qh hbk;clear hbk
       go_wp2_with fail
       refine(HB6.out).mono ?_;rintro e w6 ⟨rfl,hu6⟩;have hx6:=hx5.trans hu6
       go_wp2_with fail
       refine(HPB.out w6 hx6).mono ?_;rintro e w7 ⟨A8,c8,rfl,hi8,hu7⟩;have hx7:=hx6.trans hu7;have H7:=Qh hx7;have ha7:=Qh (hi7.upd (hu6.trans hu7) (fun _ _=>id));have hb7:=Qh hi8;clear hi7 hi8 hu5 hu6 hu7 hx4 hx5 hx6
       cases htn:decide (x.t∈pn)
       ·have HIN2:=Qh (fun(W:World) (u:Upd No wx W)=>Zaf W _ Q cq pn x.t (HQ.out W u) (by have:=HLN.out;omega) htn);have HST:=Qh (show Zah must pa pn (Zf x.f a) (Zf x.f b) (l.drop (k+1))=RR by have:=HS.out;rw[ZcJ HTA.out,ZcI HTA.out HBK.out htn]at this;exact this);clear htn;go_wp2;refine wp_region_noPanic ?_;refine wp_region_held_drew (S:=(fun W'=>Upd No wx W')) (by kernel_rfl) ?_ (fun hHeld=> ?_)
        ·(first|exact(Upd.drew H7.out)|exact hHeld.trans hu9)
        refine wpK 0 rfl ?_;refine wpK 1 rfl ?_;refine wpK 2 rfl ?_;refine wpK 3 rfl ?_;refine wpK 4 rfl ?_;refine wpK 5 rfl ?_;refine wpK 6 rfl ?_;refine wpK 7 rfl ?_;refine wpR [8] ?_;refine wpC rfl (fun K hK=> ?_) AllReadyH.nil;go_simp
        (first
  |(go_at_call 60;refine(HIN2.out _ hHeld).mono ?_;rintro e w9 ⟨rfl,hu9⟩;have hu9':Upd No w7 w9:=Upd.of_drew hu9))
        try (go_wp2_with fail)
        refine hK.out _ _ ?_ (fun hHeld=> ?_)
        ·(first|exact(Upd.drew H7.out)|exact hHeld.trans hu9)
        clear hK K
        try simp only[Act.put,sT,sS,sZ]
        refine wpD (NoPanic.normal ?_);have HU9:=Qh hHeld;have HI9a:=Qh (Ints.upd ha7.out hu9' (fun _ _=>id));have HI9b:=Qh (Ints.upd hb7.out hu9' (fun _ _=>id));clear hHeld hu9 hu9';go_wp2
        go_roundg (gk-1)
        case measure=>omega
        case rel=>exact⟨k+1,A7,c7,(Zf x.f a),A8,c8,(Zf x.f b),by omega,by go_num,rfl,rfl,HST,Qh (by have:=HLL.out;have:=Zo x.f a;have:=Zo x.f b;refine⟨?_,?_⟩<;>omega),HI9a.out,HI9b.out,HUW.out.trans HU9.out⟩
       ·have HIN2:=Qh (fun(W:World) (u:Upd No wx W)=>Zaf W _ Q cq pn x.t (HQ.out W u) (by have:=HLN.out;omega) htn);have HST:=Qh (show Zah must pa pn (Zf x.f a) (Zf x.f (Zf x.f b)) (l.drop (k+1))=RR by have:=HS.out;rw[ZcJ HTA.out,ZcI HTA.out HBK.out htn]at this;exact this);have HPT:=Qh (fun(W:World) (u:Upd No w7 W)=>Zhx _ wo.heap.size W A8 c8 (Zf x.f b) x.f (Ints.upd hb7.out u (fun _ _=>id)) (by have:=HLL.out;have:=Zo x.f b;omega) (Nat.le_trans HUW.out.size (Nat.le_trans (Upd.size H7.out) u.size)));clear htn;go_wp2;refine wp_region_noPanic ?_;refine wp_region_held_drew (S:=(fun W'=>Upd No wx W')) (by kernel_rfl) ?_ (fun hHeld=> ?_)
        ·(first|exact(Upd.drew H7.out)|exact hHeld.trans hu9)
        refine wpK 0 rfl ?_;refine wpK 1 rfl ?_;refine wpK 2 rfl ?_;refine wpK 3 rfl ?_;refine wpK 4 rfl ?_;refine wpK 5 rfl ?_;refine wpK 6 rfl ?_;refine wpK 7 rfl ?_;refine wpR [8] ?_;refine wpC rfl (fun K hK=> ?_) AllReadyH.nil;go_simp
        (first
  |(go_at_call 60;refine(HIN2.out _ hHeld).mono ?_;rintro e w9 ⟨rfl,hu9⟩;have hu9':Upd No w7 w9:=Upd.of_drew hu9))
        try (go_wp2_with fail)
        refine hK.out _ _ ?_ (fun hHeld=> ?_)
        ·(first|exact(Upd.drew H7.out)|exact hHeld.trans hu9)
        clear hK K
        try simp only[Act.put,sT,sS,sZ]
        refine wpD (NoPanic.normal ?_);have HU9:=Qh hHeld;have HI9a:=Qh (Ints.upd ha7.out hu9' (fun _ _=>id));have hx9:=hHeld;clear hHeld hu9
        go_wp2_with fail
        refine(HPT.out w9 hu9').mono ?_;rintro e w10 ⟨A10,c10,rfl,hi10,hu10⟩;have HI10a:=Qh (HI9a.out.upd hu10 (fun _ _=>id));have HI10b:=Qh hi10;have HU10:=Qh (HU9.out.trans hu10);clear hi10 hu10 hx9;go_wp2
        go_roundg (gk-1)
        case measure=>omega
        case rel=>exact⟨k+1,A7,c7,(Zf x.f a),A10,c10,Zf x.f (Zf x.f b),by omega,by go_num,rfl,rfl,HST,Qh (by have:=HLL.out;have:=Zo x.f a;have:=Zo x.f b;have:=Zo x.f (Zf x.f b);refine⟨?_,?_⟩<;>omega),HI10a.out,HI10b.out,HUW.out.trans HU10.out⟩
    ·obtain rfl:k=l.length:=by omega
     have hRa:(a,b)=RR:=by have:=HS0.out;rw[List.drop_length]at this;exact this
     have hra1:(Zi must l tgt (n+1)).1=a:=by rw[HRR.out,←hRa]
     have hra2:(Zi must l tgt (n+1)).2=b:=by rw[HRR.out,←hRa]
     have HRA1:=Qh hra1;have HRA2:=Qh hra2;obtain⟨we,hwe⟩:∃we,we=wr:=⟨_,rfl⟩;subst hwe;have hG1:∀i,Own (.slice (some ad1) (n+1) c1) i→w.heap.size+1≤i∧i<wo.heap.size:=fun i e=>HO1.out.lt i e
     have hG2:∀i,Own (.slice (some ad2) (n+1) c2) i→w.heap.size+1≤i∧i<wo.heap.size:=fun i e=>HO2.out.lt i e
     have hszj:=huj.size;have BNe:=Qh (BN.out.upd huj id);have BRe:=Qh (BRR.out.upd huj id);have HO1e:=Qh (Za HO1.out huj (fun _ _=>id));have HO2e:=Qh (Za HO2.out huj (fun _ _=>id));have HR1e:=Qh (RowsOk.weak (G:=fun i=>ZdP (w.heap.size+1+1+1+1) (some ad1) (some ad2) i∧i<we.heap.size) (HR1.out.upd huj (fun _ _=>id)) (fun i hi h=>⟨h,hi⟩));have HR2e:=Qh (RowsOk.weak (G:=fun i=>ZdP (w.heap.size+1+1+1+1) (some ad1) (some ad2) i∧i<we.heap.size) (HR2.out.upd huj (fun _ _=>id)) (fun i hi h=>⟨h,hi⟩))
     have hF:∀i,i<we.heap.size→wo.heap.size≤i→ZdP (w.heap.size+1+1+1+1) (some ad1) (some ad2) i∧i<we.heap.size:=fun i hi h=>
      ⟨⟨⟨fun e=>by have:=(hG1 i (Zb e)).2;omega,fun e=>by have:=(hG2 i (Zb e)).2;omega⟩,⟨by have:=BL.out;omega,by have:=BL.out;omega⟩⟩,hi⟩
     have HA0:=Qh (hia.weak hF);have HB0:=Qh (hib.weak hF);have HUE:=Qh (HUO.out.trans huj);have HG1:=Qh hG1;have HG2:=Qh hG2;have c0:=BNe.out.cell 0;have c1':=BNe.out.cell 1;simp only[Qz,Qs]at c0 c1';clear hRa hra1 hra2 hG1 hG2 hF hia hib huj y1 y2
     go_wp2_with (at_builtin;(first
      |(refine Zfr rfl rfl ZiL (v:= .slice (some ad1) (n+1) c1) (n:=n+1) (m:=1) (xs:=vs1) (news:=[.slice A5 a.length c5]) rfl rfl (Za HO1e.out ((Upd.refl No _).alloc _) (fun _ _=>id)) (Zgl rfl rfl) (by simp[Value.oneCell']) (by omega) (by omega) (by have:=BNe.out.lt;simp;omega) ?_
        intro v4 w4 hown4 hu4 hg4;obtain⟨A4,c4,rfl⟩:=ZaE hown4;have U4:Upd (Own (.slice (some ad1) (n+1) c1)) we w4:=((Upd.refl _ we).alloc _).trans hu4;have hs4:=U4.size;have bN4:=BNe.out.upd U4 (fun e=>(HD.out _ (Zb e)).2 rfl);have HBR4:=Qh (BRe.out.upd U4 (fun e=>by have:=(HG1.out _ e).1;omega));have HO24:=Qh (Za HO2e.out U4 (fun i e e2=>(HD.out i (Zb e2)).1 (Zb e)));have HR14:=Qh (HR1e.out.upd U4 (fun i h e=>h.1.1.1 (Zb e)));have HR24:=Qh (HR2e.out.upd U4 (fun i h e=>h.1.1.1 (Zb e)));have HA4:=Qh (HA0.out.upd U4 (fun i h e=>h.1.1.1 (Zb e)));have HB4:=Qh (HB0.out.upd U4 (fun i h e=>h.1.1.1 (Zb e)));have HU4:=Qh (HUE.out.then_ U4 (fun i e=> .inr (by have:=(HG1.out i e).1;omega)))
        have HG4:=Qh (fun i (e:Own (.slice A4 (n+1+1) c4) i)=>(show(w.heap.size+1≤i∧i<w4.heap.size)∧(Own (.slice (some ad1) 0 0) i∨we.heap.size≤i) from⟨hown4.lt i e,by
         rcases hg4 with e3|⟨j,e3,e4⟩
         ·exact .inl (Zb (n:=n+1) (c:=c1) (by unfold Own at e ⊢;rw[←e3];exact e))
         ·have:i=j:=by unfold Own at e;rw[e3]at e;injection e with e;exact e.symm
          simp at e4;exact .inr (by omega)⟩))
        have k0:=bN4.cell 0;have k1:=bN4.cell 1;have fr0:=bN4.free 0;simp only[Qz,Qs]at k0 k1;have BN4:=Qh bN4;have HO14:=Qh hown4;clear bN4 U4 hu4 hg4 hown4 c0 c1')
      |(refine Zfr rfl rfl ZiL (v:= .slice (some ad2) (n+1) c2) (n:=n+1) (m:=1) (xs:=vs2) (news:=[.slice A6 b.length c6]) rfl rfl (Za (Za HO24.out ((Upd.refl (One (w.heap.size+1+1+1+1)) w4).setOne 0 _) (fun i e e2=>HD2.out i (Zb e) e2)) ((Upd.refl No _).alloc _) (fun _ _=>id)) (Zgl (by simp) rfl) (by simp[Value.oneCell']) (by omega) (by omega) (by have:=BN4.out.lt;simp;omega) ?_
        intro v6 w6 hown6 hu6 hg6;obtain⟨A7,c7,rfl⟩:=ZaE hown6;have U5:=(Upd.refl (One (w.heap.size+1+1+1+1)) w4).setOne 0 (.slice A4 (n+1+1) c4);have U6:Upd (Own (.slice (some ad2) (n+1) c2)) (w4.setCell ⟨w.heap.size+1+1+1+1,0,none⟩ (.slice A4 (n+1+1) c4)) w6:=((Upd.refl _ _).alloc _).trans hu6;have hs6:=U6.size;simp only[World.size_setCell]at hs6;have bN6:=(BN4.out.set_ 0 (.slice A4 (n+1+1) c4)).upd U6 (fun e=>HD2.out _ (Zb e) rfl);have HBR6:=Qh ((HBR4.out.upd U5 (by unfold One;omega)).upd U6 (fun e=>by have:=(HG2.out _ e).1;omega));have HN4:=fun i (e:Own (.slice A4 (n+1+1) c4) i)=>(show¬Own (.slice (some ad2) 0 0) i∧i≠w.heap.size+1+1+1+1 from(HG4.out i e).2.elim (fun h=>HD.out i h) (fun h=>⟨fun e2=>by have:=(HG2.out i (Zb e2)).2;omega,by have:=BL.out;omega⟩))
        have HO16:=Qh (Za (Za HO14.out U5 (fun i e e2=>(HN4 i e).2 e2)) U6 (fun i e e2=>(HN4 i e).1 (Zb e2)));have HR16:=Qh ((HR14.out.upd U5 (fun i h e=>h.1.2.1 e)).upd U6 (fun i h e=>h.1.1.2 (Zb e)));have HR26:=Qh ((HR24.out.upd U5 (fun i h e=>h.1.2.1 e)).upd U6 (fun i h e=>h.1.1.2 (Zb e)));have HA6:=Qh ((HA4.out.upd U5 (fun i h e=>h.1.2.1 e)).upd U6 (fun i h e=>h.1.1.2 (Zb e)));have HB6:=Qh ((HB4.out.upd U5 (fun i h e=>h.1.2.1 e)).upd U6 (fun i h e=>h.1.1.2 (Zb e)));have HU6:=Qh ((HU4.out.then_ U5 (fun i e=> .inr (by unfold One at e;omega))).then_ U6 (fun i e=> .inr (by have:=(HG2.out i e).1;omega)))
        have HG6:=Qh (fun i (e:Own (.slice A7 (n+1+1) c7) i)=>(show Own (.slice (some ad2) 0 0) i∨w4.heap.size≤i from by
         rcases hg6 with e3|⟨j,e3,e4⟩
         ·exact .inl (Zb (n:=n+1) (c:=c2) (by unfold Own at e ⊢;rw[←e3];exact e))
         ·have:i=j:=by unfold Own at e;rw[e3]at e;injection e with e;exact e.symm
          simp at e4;exact .inr (by omega)))
        have HN4':=Qh HN4;have k0:=bN6.cell 0;have k1:=bN6.cell 1;have fr1:=bN6.free 1;simp only[List.set_cons_zero,Qz,Qs]at k0 k1;have BN6:=Qh bN6;have HO26:=Qh hown6;clear bN6 U6 U5 hu6 hg6 hown6 HN4)))
     go_roundg (g0-1)
     case measure=>omega
     case rel=>
      have U7:=(Upd.refl (One (w.heap.size+1+1+1+1)) w6).setOne 1 (.slice A7 (n+1+1) c7);have b7:=BN6.out.set_ 1 (.slice A7 (n+1+1) c7);simp only[List.set_cons_zero,List.set_cons_succ]at b7;have hN7:∀i,Own (.slice A7 0 0) i→i≠w.heap.size+1+1+1+1:=fun i e=>(HG6.out i (Zb e)).elim (fun h=>HD2.out i h) (fun h=>by have:=BL.out;omega)
      have hD7:∀i,Own (.slice A4 0 0) i→¬Own (.slice A7 0 0) i:=fun i e e2=>(HG6.out i (Zb e2)).elim (fun h=>(HN4'.out i (Zb e)).1 h) (fun h=>by have:=(HG4.out i (Zb e)).1.2;omega)
      have hF7:∀i,ZdP (w.heap.size+1+1+1+1) (some ad1) (some ad2) i∧i<we.heap.size→ZdP (w.heap.size+1+1+1+1) A4 A7 i:=fun i h=>
       ⟨⟨fun e=>(HG4.out i (Zb e)).2.elim (fun e2=>h.1.1.1 e2) (fun e2=>by omega),fun e=>(HG6.out i (Zb e)).elim (fun e2=>h.1.1.2 e2) (fun e2=>by omega)⟩,h.1.2⟩
      refine⟨n+1,A4,c4,vs1++[.slice A5 a.length c5],A7,c7,vs2++[.slice A6 b.length c6],by omega,by go_num,Qh ⟨by rw[List.length_append,HVL.out.1];rfl,by rw[List.length_append,HVL.out.2];rfl⟩,Qh b7,Qh (HBR6.out.upd U7 (by unfold One;omega)),Qh (Za HO16.out U7 (fun i e e2=>(HN4'.out i e).2 e2)),Qh (Za HO26.out U7 (fun i e e2=>hN7 i (Zb e) e2)),Qh (fun i e=>⟨hD7 i e,(HN4'.out i (Zb e)).2⟩),Qh hN7,Qh ?_,Qh ?_,HU6.out.then_ U7 (fun i e=> .inr (by unfold One at e;omega))⟩
      ·refine(RowsOk.weak (RowsOk.app (HR16.out.upd U7 (fun i h e=>h.1.2.1 e)) ⟨A5,c5,?_,?_⟩) (fun i _ h=>hF7 i h))
       ·rw[HVL.out.1,HRA1.out]
       ·simp only[HVL.out.1,HRA1.out];exact HA6.out.upd U7 (fun i h e=>h.1.2.1 e)
      ·refine(RowsOk.weak (RowsOk.app (HR26.out.upd U7 (fun i h e=>h.1.2.1 e)) ⟨A6,c6,?_,?_⟩) (fun i _ h=>hF7 i h))
       ·rw[HVL.out.2,HRA2.out]
       ·simp only[HVL.out.2,HRA2.out];exact HB6.out.upd U7 (fun i h e=>h.1.2.1 e)
  ·obtain rfl:n=steps:=by omega
   have e0:decide ((n:Int)+1≤(n:Int))=false:=decide_eq_false (by omega);have m0:=BN.out.cell 0;have m1:=BN.out.cell 1;have s0:=BRR.out.cell 0;have s1:=BRR.out.cell 1;have t0:=BRR.out.free 0;have t1:=BRR.out.free 1;simp only[Qz,Qs]at m0 m1 s0 s1;have HU:=Qh hu;clear hu;go_wp2;have b9:=(BRR.out.set_ 0 (.slice A1 (n+1) c1)).set_ 1 (.slice A2 (n+1) c2);simp only[List.set_cons_zero,List.set_cons_succ]at b9;have US:=((Upd.refl (One w.heap.size) wo).setOne 0 (.slice A1 (n+1) c1)).setOne 1 (.slice A2 (n+1) c2);have hl1:∀i,Own (.slice A1 (n+1) c1) i→¬One w.heap.size i:=fun i e e2=>by have:=(HO1.out.lt i e).1;unfold One at e2;omega
   have hl2:∀i,Own (.slice A2 (n+1) c2) i→¬One w.heap.size i:=fun i e e2=>by have:=(HO2.out.lt i e).1;unfold One at e2;omega
   refine bodyPost_ret (results_cell_row (p:=8) rfl _ _ _ _ _ _ _ rfl b9 Tryz.underlying109 rfl (by kernel_rfl)) rfl ⟨_,rfl,⟨A1,c1,A2,c2,rfl,?_,?_⟩,HU.out.then_ US fun k e=> .inr (by unfold One at e;omega)⟩
   ·exact ZdG (Za HO1.out US hl1) HVL.out.1 (HR1.out.upd US (fun i h e=>by have:=h.2.2;unfold One at e;omega))
   ·exact ZdG (Za HO2.out US hl2) HVL.out.2 (HR2.out.upd US (fun i h e=>by have:=h.2.2;unfold One at e;omega))
end
end Go.Proofs.YticmndpiehinjaaGreat
