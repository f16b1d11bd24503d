/- Closed walks: the arc of an edge. -/
import Derived.BigRegion
import Derived.Test.YtonblekdfinpkaaGreatWqag
import Derived.Test.YtonblekdfinpkaaGreatWqbp
namespace Go.Proofs.YtonblekdfinpkaaGreat
set_option linter.unusedVariables false
set_option linter.unusedSimpArgs false
section
open Go.RowKit
theorem ZkF (x:Int):∀{s:List Int},s.Pairwise (·<·)→((s.countP (·<x):Nat):Int)=rk s x
 |[],_=>rfl
 |a::s,h=>by
  rw[List.pairwise_cons]at h;unfold rk;rw[List.countP_cons]
  by_cases ha:a<x
  ·rw[if_pos ha,if_pos (by simpa using ha),Int.natCast_add,ZkF x h.2];rfl
  ·rw[if_neg ha,if_neg (by simpa using ha),Nat.add_zero]
   have:s.countP (·<x)=0:=by
    rw[List.countP_eq_zero];intro b hb;have:=h.1 b hb;simp;omega
   rw[this];rfl
theorem ZsA (F:Nat→Prop) (w:World) (A:Option Addr) (c:Nat) (l:List Int) (x:Int) (h:Ints F w A l) (hne:l≠[]) (hs:l.Pairwise (·<·)) (hl:l.length≤1000000):
  Calls Tryz.prog 224 #[.slice A l.length c,.int .i64 x] w fun e w'=>∃b,e= .returned (.tuple #[.int .i64 (rk l x),.bool b])∧Upd No w w':=by
 obtain⟨b,o,rfl,hc⟩:=h.cells_ hne;refine Calls.mono (AnyG.slices_BinarySearch_int Zqy b o l.length c l x w (Nat.le_refl _) (by omega) hc (by rw[List.take_length];exact hs.imp fun {a b} h=>Int.le_of_lt h)) ?_;rintro e w' ⟨rfl,q,rfl⟩;rw[List.take_length,ZkF x hs];exact⟨_,rfl,(Upd.refl _ _).drewN q⟩
set_option maxRecDepth 100000 in
set_option maxHeartbeats 4000000 in
theorem Zug (F1 F2:Nat→Prop) (w:World) (A B:Option Addr) (ca cb:Nat) (ids keys:List Int) (hA:Ints F1 w A ids) (hB:Ints F2 w B keys) (hsi:ids.Pairwise (·<·)) (hsk:keys.Pairwise (·<·)) (hni:ids≠[]) (hnk:keys≠[]) (hl1:ids.length≤1000000) (hl2:keys.length≤1000000) (e:Edge):
  Calls Tryz.prog 184 #[.agg #[.slice A ids.length ca,.slice B keys.length cb],.agg e.cells.toArray] w fun x w'=>x= .returned (.agg (toR ids keys ⟨e.f,e.t,e.k,e.key⟩).cells.toArray)∧Upd No w w':=by
 obtain⟨ef,et,ek,ey⟩:=e;obtain⟨wb,hwb⟩:∃wb,((w.alloc (.cells #[.slice A ids.length ca,.slice B keys.length cb] 179)).alloc (.cells #[.int .i64 ef,.int .i64 et,.int .i64 ek,.int .i64 ey] 26)).alloc (.cells #[.int .i64 0,.int .i64 0,.int .i64 0,.int .i64 0] 34)=wb:=⟨_,rfl⟩;have u0:Upd No w wb:=by rw[←hwb];exact(((Upd.refl No w).alloc _).alloc _).alloc _
 have bN:Blk wb w.heap.size 179 [.slice A ids.length ca,.slice B keys.length cb]:=by rw[←hwb];exact((Blk.new w _ _).alloc _).alloc _
 have bE:Blk wb (w.heap.size+1) 26 [.int .i64 ef,.int .i64 et,.int .i64 ek,.int .i64 ey]:=by
  rw[←hwb];have:=(Blk.new (w.alloc (.cells #[.slice A ids.length ca,.slice B keys.length cb] 179)) 26 [.int .i64 ef,.int .i64 et,.int .i64 ek,.int .i64 ey]).alloc (.cells #[.int .i64 0,.int .i64 0,.int .i64 0,.int .i64 0] 34);simpa only[World.size_alloc]using this
 have bR:Blk wb (w.heap.size+2) 34 [.int .i64 0,.int .i64 0,.int .i64 0,.int .i64 0]:=by
  rw[←hwb];have:=Blk.new ((w.alloc (.cells #[.slice A ids.length ca,.slice B keys.length cb] 179)).alloc (.cells #[.int .i64 ef,.int .i64 et,.int .i64 ek,.int .i64 ey] 26)) 34 [.int .i64 0,.int .i64 0,.int .i64 0,.int .i64 0];simpa only[World.size_alloc]using this
 have n0:∀W,Upd No wb W→W.cell? ⟨w.heap.size,0,none⟩=some (.slice A ids.length ca):=fun W u=>by have:=(bN.upd u id).cell 0;simpa using this
 have n1:∀W,Upd No wb W→W.cell? ⟨w.heap.size,1,none⟩=some (.slice B keys.length cb):=fun W u=>by have:=(bN.upd u id).cell 1;simpa using this
 have e0:∀W,Upd No wb W→W.cell? ⟨w.heap.size+1,0,none⟩=some (.int .i64 ef):=fun W u=>by have:=(bE.upd u id).cell 0;simpa using this
 have e1:∀W,Upd No wb W→W.cell? ⟨w.heap.size+1,1,none⟩=some (.int .i64 et):=fun W u=>by have:=(bE.upd u id).cell 1;simpa using this
 have e2:∀W,Upd No wb W→W.cell? ⟨w.heap.size+1,2,none⟩=some (.int .i64 ek):=fun W u=>by have:=(bE.upd u id).cell 2;simpa using this
 have e3:∀W,Upd No wb W→W.cell? ⟨w.heap.size+1,3,none⟩=some (.int .i64 ey):=fun W u=>by have:=(bE.upd u id).cell 3;simpa using this
 have HA:=Qh (fun(W:World) (u:Upd No wb W) (x:Int)=>ZsA F1 W A ca ids x (hA.upd (u0.trans u) (fun _ _=>id)) hni hsi hl1);have HB:=Qh (fun(W:World) (u:Upd No wb W) (x:Int)=>ZsA F2 W B cb keys x (hB.upd (u0.trans u) (fun _ _=>id)) hnk hsk hl2);have U0:=Qh u0;have BR:=Qh bR;have hr:Upd No wb wb:=Upd.refl _ _;unfold toR HArc.cells Edge.cells;simp only;clear hA hB bN bE bR u0
 go_enter Tryz.func184,Tryz.ntmps184
 go_wp2_with fail
 refine(HA.out wb (Upd.refl _ _) ef).mono ?_;rintro e w1 ⟨b1,rfl,hu1⟩
 go_wp2_with fail
 refine(HA.out w1 hu1 et).mono ?_;rintro e w2 ⟨b2,rfl,hu2'⟩;have hu2:=hu1.trans hu2';clear hu2'
 go_wp2_with fail
 refine(HB.out w2 hu2 ey).mono ?_;rintro e w3 ⟨b3,rfl,hu3'⟩;have hu3:=hu2.trans hu3';clear hu3';have HB3:=Qh (BR.out.upd hu3 id);have U3:=Qh hu3;have hb3:=HB3.out;have r0:=hb3.cell 0;have r1:=hb3.cell 1;have r2:=hb3.cell 2;have r3:=hb3.cell 3;have f0:=hb3.free 0;have f1:=hb3.free 1;have f2:=hb3.free 2;have f3:=hb3.free 3;simp only[Qz,Qs]at r0 r1 r2 r3;clear hb3;go_wp2;have b4:=((((HB3.out).set_ 0 (.int .i64 (rk ids ef))).set_ 1 (.int .i64 (rk ids et))).set_ 2 (.int .i64 ek)).set_ 3 (.int .i64 (rk keys ey));simp only[List.set_cons_zero,List.set_cons_succ]at b4;have US:=((((Upd.refl (One (w.heap.size+2)) w3).setOne 0 (.int .i64 (rk ids ef))).setOne 1 (.int .i64 (rk ids et))).setOne 2 (.int .i64 ek)).setOne 3 (.int .i64 (rk keys ey));refine bodyPost_ret (results_cell_row (p:=4) rfl _ _ _ _ _ _ _ rfl b4 Tryz.underlying34 rfl (by kernel_rfl)) rfl ⟨rfl,?_⟩;exact(U0.out.trans U3.out).then_ US fun k e=> .inr (by unfold One at e;omega)
end
/- Closed walks:the edge of an arc. -/
section
open Go.RowKit
def ZcQ (ids keys:List Int) (a:HArc):Edge:=⟨ids.getD a.f.toNat 0,ids.getD a.t.toNat 0,a.kind,keys.getD a.label.toNat 0⟩
set_option maxRecDepth 100000 in
set_option maxHeartbeats 8000000 in
theorem ZsP (F1 F2:Nat→Prop) (w:World) (A B:Option Addr) (ca cb:Nat) (ids keys:List Int) (hA:Ints F1 w A ids) (hB:Ints F2 w B keys) (a:HArc)
  (h1:0≤a.f) (h2:a.f<(ids.length:Int)) (h3:0≤a.t) (h4:a.t<(ids.length:Int)) (h5:0≤a.label) (h6:a.label<(keys.length:Int)):
  Calls Tryz.prog 119 #[.agg #[.slice A ids.length ca,.slice B keys.length cb],.agg a.cells.toArray] w fun e w'=>e= .returned (.agg (ZcQ ids keys a).cells.toArray)∧Upd No w w':=by
 obtain⟨af,at',ak,al⟩:=a;simp only at h1 h2 h3 h4 h5 h6;obtain⟨f,rfl⟩:∃f:Nat,af=(f:Int):=⟨af.toNat,by omega⟩;obtain⟨t,rfl⟩:∃t:Nat,at'=(t:Int):=⟨at'.toNat,by omega⟩;obtain⟨lb,rfl⟩:∃t:Nat,al=(t:Int):=⟨al.toNat,by omega⟩;have hf:f<ids.length:=by omega
 have ht:t<ids.length:=by omega
 have hlb:lb<keys.length:=by omega
 obtain⟨wb,hwb⟩:∃wb,((w.alloc (.cells #[.slice A ids.length ca,.slice B keys.length cb] 179)).alloc (.cells #[.int .i64 (f:Int),.int .i64 (t:Int),.int .i64 ak,.int .i64 (lb:Int)] 34)).alloc (.cells #[.int .i64 0,.int .i64 0,.int .i64 0,.int .i64 0] 26)=wb:=⟨_,rfl⟩;have u0:Upd No w wb:=by rw[←hwb];exact(((Upd.refl No w).alloc _).alloc _).alloc _
 have bN:Blk wb w.heap.size 179 [.slice A ids.length ca,.slice B keys.length cb]:=by rw[←hwb];exact((Blk.new w _ _).alloc _).alloc _
 have bA:Blk wb (w.heap.size+1) 34 [.int .i64 (f:Int),.int .i64 (t:Int),.int .i64 ak,.int .i64 (lb:Int)]:=by
  rw[←hwb];have:=(Blk.new (w.alloc (.cells #[.slice A ids.length ca,.slice B keys.length cb] 179)) 34 [.int .i64 (f:Int),.int .i64 (t:Int),.int .i64 ak,.int .i64 (lb:Int)]).alloc (.cells #[.int .i64 0,.int .i64 0,.int .i64 0,.int .i64 0] 26);simpa only[World.size_alloc]using this
 have bE:Blk wb (w.heap.size+2) 26 [.int .i64 0,.int .i64 0,.int .i64 0,.int .i64 0]:=by
  rw[←hwb];have:=Blk.new ((w.alloc (.cells #[.slice A ids.length ca,.slice B keys.length cb] 179)).alloc (.cells #[.int .i64 (f:Int),.int .i64 (t:Int),.int .i64 ak,.int .i64 (lb:Int)] 34)) 26 [.int .i64 0,.int .i64 0,.int .i64 0,.int .i64 0];simpa only[World.size_alloc]using this
 obtain⟨aa,rfl,_,la,y1⟩:=hA.at_ hf;obtain⟨aa',e',_,_,y2⟩:=hA.at_ ht
 cases e'
 obtain⟨ab,rfl,_,lb2,y3⟩:=hB.at_ hlb;have e1:ids[f]=ids.getD f 0:=by simp[List.getD,hf]
 have e2:ids[t]=ids.getD t 0:=by simp[List.getD,ht]
 have e3:keys[lb]=keys.getD lb 0:=by simp[List.getD,hlb]
 rw[e1]at y1;rw[e2]at y2;rw[e3]at y3;have r0:=bE.cell 0;have r1:=bE.cell 1;have r2:=bE.cell 2;have r3:=bE.cell 3;have f0:=bE.free 0;have f1:=bE.free 1;have f2:=bE.free 2;have f3:=bE.free 3;simp only[Qz,Qs]at r0 r1 r2 r3;have nN:¬One (w.heap.size+2) w.heap.size:=by unfold One;omega
 have nA:¬One (w.heap.size+2) (w.heap.size+1):=by unfold One;omega
 have z1:∀W,Upd (One (w.heap.size+2)) wb W→W.cell? (aa.add f)=some (.int .i64 (ids.getD f 0)):=fun W u=>u.keep (u0.keepNo y1) (by rw[Ints.block_add];unfold One;omega)
 have z2:∀W,Upd (One (w.heap.size+2)) wb W→W.cell? (aa.add t)=some (.int .i64 (ids.getD t 0)):=fun W u=>u.keep (u0.keepNo y2) (by rw[Ints.block_add];unfold One;omega)
 have z3:∀W,Upd (One (w.heap.size+2)) wb W→W.cell? (ab.add lb)=some (.int .i64 (keys.getD lb 0)):=fun W u=>u.keep (u0.keepNo y3) (by rw[Ints.block_add];unfold One;omega)
 clear y1 y2 y3;have c0:∀W,Upd (One (w.heap.size+2)) wb W→W.cell? ⟨w.heap.size,0,none⟩=some (.slice (some aa) ids.length ca):=fun W u=>by have:=(bN.upd u nN).cell 0;simpa using this
 have c1:∀W,Upd (One (w.heap.size+2)) wb W→W.cell? ⟨w.heap.size,1,none⟩=some (.slice (some ab) keys.length cb):=fun W u=>by have:=(bN.upd u nN).cell 1;simpa using this
 have g0:∀W,Upd (One (w.heap.size+2)) wb W→W.cell? ⟨w.heap.size+1,0,none⟩=some (.int .i64 (f:Int)):=fun W u=>by have:=(bA.upd u nA).cell 0;simpa using this
 have g1:∀W,Upd (One (w.heap.size+2)) wb W→W.cell? ⟨w.heap.size+1,1,none⟩=some (.int .i64 (t:Int)):=fun W u=>by have:=(bA.upd u nA).cell 1;simpa using this
 have g2:∀W,Upd (One (w.heap.size+2)) wb W→W.cell? ⟨w.heap.size+1,2,none⟩=some (.int .i64 ak):=fun W u=>by have:=(bA.upd u nA).cell 2;simpa using this
 have g3:∀W,Upd (One (w.heap.size+2)) wb W→W.cell? ⟨w.heap.size+1,3,none⟩=some (.int .i64 (lb:Int)):=fun W u=>by have:=(bA.upd u nA).cell 3;simpa using this
 have i1:(0:Int)≤(f:Int):=Qn _;have i2:(0:Int)≤(t:Int):=Qn _;have i3:(0:Int)≤(lb:Int):=Qn _;have HV:ZcQ ids keys ⟨f,t,ak,lb⟩=⟨ids.getD f 0,ids.getD t 0,ak,keys.getD lb 0⟩:=rfl;rw[HV]
 generalize ids.getD f 0=vf at*
 generalize ids.getD t 0=vt at*
 generalize keys.getD lb 0=vl at*
 have U0:=Qh u0;have BE:=Qh bE;unfold HArc.cells Edge.cells;simp only;clear hA hB u0 bN bA bE e1 e2 e3 h1 h3 h5 HV hf ht hlb
 go_enter Tryz.func119,Tryz.ntmps119
 go_wp2_with fail
 clear hwb;have HE:=Qh BE.out;clear r0 r1 r2 r3 f0 f1 f2 f3;refine wp_region_noPanic ?_;refine wp_region_held_drew (S:=(fun w'=>Upd (One (w.heap.size+2)) wb w')) (by kernel_rfl) ?_ (fun hHeld=> ?_)
 ·(first|exact(Upd.refl _ _).drew|exact hHeld.trans hq)
 refine wpK 0 rfl ?_;refine wpK 1 rfl ?_;refine wpK 2 rfl ?_;refine wpK 3 rfl ?_;refine wpK 4 rfl ?_;refine wpK 5 rfl ?_;refine wpK 6 rfl ?_;refine wpK 7 rfl ?_;refine wpK 8 rfl ?_;refine wpK 9 rfl ?_;refine wpK 10 rfl ?_;refine wpK 11 rfl ?_;refine wpK 12 rfl ?_;refine wpK 13 rfl ?_;refine wpK 14 rfl ?_;refine wpK 15 rfl ?_;refine wpK 16 rfl ?_;refine wpK 17 rfl ?_;refine wpK 18 rfl ?_;refine wpK 19 rfl ?_;refine wpK 20 rfl ?_;refine wpR [21] ?_;refine wpC rfl (fun K hK=> ?_) AllReadyH.nil
 (first
  |(refine Zcd rfl rfl (g:=w.heap.size+2) (cells:=[.int .i64 vf,.int .i64 vt,.int .i64 ak,.int .i64 vl]) rfl rfl (show Blk _ _ 26 [.int .i64 0,.int .i64 0,.int .i64 0,.int .i64 0] from HE.out) (by kernel_rfl) rfl rfl ?_;intro w5 hb5 hu5;have HE:=Qh hb5;have hq:Upd (One (w.heap.size+2)) _ _:=hu5;clear hb5 hu5))
 refine hK.out _ _ ?_ (fun hHeld=> ?_)
 ·(first|exact(Upd.refl _ _).drew|exact hHeld.trans hq)
 clear hK K
 try simp only[Act.put,sT,sS,sZ]
 refine wpD (NoPanic.normal ?_);go_wp2;refine bodyPost_ret (results_cell_row (p:=4) rfl _ _ _ _ _ _ _ rfl HE.out Tryz.underlying26 rfl (by kernel_rfl)) rfl ⟨rfl,?_⟩;exact U0.out.then_ hHeld fun k e=> .inr (by unfold One at e;omega)
end
/- Closed walks,plain:the document's answer,and that the search by ranks tells the same. -/
section
open Go.RowKit
def Zgw:List Edge→List Edge→List Edge
 |acc,[]=>acc
 |acc,e::l=>Zgw (Zfe e acc) l
def Zfo:List Int→List Edge→List Int
 |acc,[]=>acc
 |acc,e::l=>Zfo (ZO e.t (ZO e.f acc)) l
def ZaH (must:Int):Bool:=ZU must 1||(ZU must 2||ZU must 3)
def ZbO (l:List Edge) (mask:Int):List Edge:=Zgw [] (l.filter fun e=>ZU mask e.k)
def ZiZ (q:List Edge) (must:Int):Nat×Int:=ZdF (Zd3 must (ZaH must) q) (2*(Zfo [] q).length) (Zfo [] q) (0,0)
def ZI (l:List Edge) (mask must:Int):List Edge:=
 if (ZiZ (ZbO l mask) must).1=0 then [] else Zbd must (ZbO l mask) (Z5 must (ZbO l mask) (ZiZ (ZbO l mask) must).2) (ZiZ (ZbO l mask) must).1 (ZiZ (ZbO l mask) must).2 (ZaH must)
theorem Zi8 {a b:Edge} (h:a.arc=b.arc):a=b:=by rw[←Zfx a,←Zfx b,h]
theorem ZgJ {l m:List Edge} (h:l.map Edge.arc=m.map Edge.arc):l=m:=by
 have:=congrArg (List.map HArc.edge) h;rw[List.map_map,List.map_map]at this
 have e:∀x:List Edge,x.map (HArc.edge ∘ Edge.arc)=x:=fun x=>by
  conv=>rhs;rw[←List.map_id x]
  exact List.map_congr_left fun _ _=>rfl
 rwa [e,e]at this
theorem mem_arcs {l:List Edge} {e:Edge}:e.arc∈l.map Edge.arc↔e∈l:=by
 rw[List.mem_map];exact⟨fun⟨x,hx,h⟩=>Zi8 h▸hx,fun h=>⟨e,h,rfl⟩⟩
theorem Zoy (a b:Edge) (l:List Edge):b∈Zfe a l↔b=a∨b∈l:=by
 rw[←mem_arcs,Zf6,Zbg,mem_arcs];exact⟨fun h=>h.imp Zi8 id,fun h=>h.imp (fun e=>by rw[e]) id⟩
theorem Zln (a:Edge) (l:List Edge) (h:l.Pairwise fun a b=>ltE a b=true):(Zfe a l).Pairwise fun a b=>ltE a b=true:=by
 have h1:Z3 (l.map Edge.arc):=List.pairwise_map.2 (h.imp fun {x y} e=>by rw[←Zd2];exact e);have h2:=Zc6 a.arc _ h1;rw[←Zf6]at h2;exact(List.pairwise_map.1 h2).imp fun {x y} e=>by rw[Zd2];exact e
theorem Zjy (b:Edge):∀(l acc:List Edge),b∈Zgw acc l↔b∈acc∨b∈l
 |[],acc=>by simp[Zgw]
 |e::l,acc=>by
  show b∈Zgw (Zfe e acc) l↔_
  rw[Zjy b l,Zoy,List.mem_cons]
  constructor
  ·rintro((h|h)|h)
   ·exact .inr (.inl h)
   ·exact .inl h
   ·exact .inr (.inr h)
  ·rintro(h|h|h)
   ·exact .inl (.inr h)
   ·exact .inl (.inl h)
   ·exact .inr h
theorem Zf7:∀(l acc:List Edge),(acc.Pairwise fun a b=>ltE a b=true)→(Zgw acc l).Pairwise fun a b=>ltE a b=true
 |[],_,h=>h
 |e::l,acc,h=>Zf7 l _ (Zln e acc h)
theorem ZkZ (x:Int):∀(l:List Edge) (acc:List Int),x∈Zfo acc l↔x∈acc∨∃e∈l,x=e.f∨x=e.t
 |[],acc=>by simp[Zfo]
 |e::l,acc=>by
  show x∈Zfo (ZO e.t (ZO e.f acc)) l↔_
  rw[ZkZ x l,ZaD,ZaD]
  constructor
  ·rintro((h|h|h)|⟨y,hy,h⟩)
   ·exact .inr ⟨e,List.mem_cons_self,.inr h⟩
   ·exact .inr ⟨e,List.mem_cons_self,.inl h⟩
   ·exact .inl h
   ·exact .inr ⟨y,List.mem_cons_of_mem _ hy,h⟩
  ·rintro(h|⟨y,hy,h⟩)
   ·exact .inl (.inr (.inr h))
   ·rcases List.mem_cons.1 hy with rfl|hy
    ·rcases h with h|h
     ·exact .inl (.inr (.inl h))
     ·exact .inl (.inl h)
    ·exact .inr ⟨y,hy,h⟩
theorem ZiV:∀(l:List Edge) (acc:List Int),acc.Pairwise (·<·)→(Zfo acc l).Pairwise (·<·)
 |[],_,h=>h
 |e::l,acc,h=>ZiV l _ (ZcW _ _ (ZcW _ _ h))
theorem mem_docQ {l:List Edge} {mask:Int} {e:Edge}:e∈ZbO l mask↔e∈l∧ZU mask e.k=true:=by
 unfold ZbO;rw[Zjy,List.mem_filter];simp
theorem ZaO {mask k:Int} (h:ZU mask k=true):1≤k∧k≤3∧Zf mask k=true:=by
 unfold ZU at h;rw[Bool.and_eq_true,Bool.and_eq_true,decide_eq_true_eq,decide_eq_true_eq]at h;exact⟨h.1,h.2.1,h.2.2⟩
theorem Zk3 (l:List Edge):∃lo:Int,∀e∈l,lo≤e.f:=by
 induction l with
 |nil=>exact⟨0,fun e he=>by cases he⟩
 |cons a l ih=>
  obtain⟨lo,h⟩:=ih;refine⟨min lo a.f,fun e he=> ?_⟩;rcases List.mem_cons.1 he with rfl|he
  ·omega
  ·have:=h e he;omega
theorem Short.mem {D D':List HArc} {must:Int} {need:Bool} {v:Int} {c:List HArc} (h:Short D must need v c) (hD:∀a,a∈D↔a∈D'):Short D' must need v c:=
 h.less (fun a ha=>(hD a).2 ha) (fun a ha=>(hD a).1 (Za1 h.w a ha))
theorem NoWay.mem {D D':List HArc} {must:Int} {need:Bool} (h:NoWay D must need) (hD:∀a,a∈D'→a∈D):NoWay D' must need:=
 fun u c' n1 n2 n3=>h u c' n1 (ZdZ hD (Int.le_refl _) n2) n3
section
variable {l:List Edge} {mask must:Int}
theorem ZjV (a:HArc):a∈(ZbO l mask).map Edge.arc↔a∈(l.filter fun e=>ZU mask e.k).map Edge.arc:=by
 rw[←Zqn a,mem_arcs,mem_arcs,mem_docQ,List.mem_filter]
theorem Ziu {v:Int} {c:List HArc} (h:Short ((l.filter fun e=>ZU mask e.k).map Edge.arc) must (ZaH must) v c):(ZI l mask must).map Edge.arc=c:=by
 have h2:=h.mem (fun a=>(ZjV (l:=l) (mask:=mask) a).symm);obtain⟨lo,hlo⟩:=Zk3 (ZbO l mask);have hk:∀e∈ZbO l mask,1≤e.k∧e.k≤3:=fun e he=>⟨(ZaO (mem_docQ.1 he).2).1,(ZaO (mem_docQ.1 he).2).2.1⟩
 have hF:=ZlR (ids:=Zfo [] (ZbO l mask)) (l:=ZbO l mask) (most:=2*(Zfo [] (ZbO l mask)).length) (Zf7 _ _ List.Pairwise.nil) hlo hk (ZiV _ _ List.Pairwise.nil) (fun e he=>(ZkZ _ _ _).2 (.inr ⟨e,he,.inl rfl⟩)) (by omega) h2;have hb:ZiZ (ZbO l mask) must=(c.length,v):=hF.1;have hc:¬c.length=0:=fun e=>h.ne (List.eq_nil_of_length_eq_zero e)
 unfold ZI;rw[hb,if_neg hc];exact hF.2
theorem ZjU (h:NoWay ((l.filter fun e=>ZU mask e.k).map Edge.arc) must (ZaH must)):ZI l mask must=[]:=by
 have h2:=h.mem (fun a ha=>(ZjV (l:=l) (mask:=mask) a).1 ha);obtain⟨lo,hlo⟩:=Zk3 (ZbO l mask);have hk:∀e∈ZbO l mask,1≤e.k∧e.k≤3:=fun e he=>⟨(ZaO (mem_docQ.1 he).2).1,(ZaO (mem_docQ.1 he).2).2.1⟩
 have hb:(ZiZ (ZbO l mask) must).1=0:=Zm4 hlo hk (ZiV _ _ List.Pairwise.nil) _ h2;unfold ZI;rw[if_pos hb]
end
def Ze (l:List Edge) (mask:Int):List Edge:=l.filter fun e=>ZU mask e.k
def ZbN:List Edge→List Int
 |[]=>[]
 |e::l=>e.f::e.t::ZbN l
theorem Zg4 (x:Int):∀l:List Edge,x∈ZbN l↔∃e∈l,x=e.f∨x=e.t
 |[]=>by simp[ZbN]
 |e::l=>by
  show x∈e.f::e.t::ZbN l↔_
  rw[List.mem_cons,List.mem_cons,Zg4 x l]
  constructor
  ·rintro(h|h|⟨y,hy,h⟩)
   ·exact⟨e,List.mem_cons_self,.inl h⟩
   ·exact⟨e,List.mem_cons_self,.inr h⟩
   ·exact⟨y,List.mem_cons_of_mem _ hy,h⟩
  ·rintro⟨y,hy,h⟩;rcases List.mem_cons.1 hy with rfl|hy
   ·rcases h with h|h
    ·exact .inl h
    ·exact .inr (.inl h)
   ·exact .inr (.inr ⟨y,hy,h⟩)
theorem Zhc:∀l:List Edge,(ZbN l).length=2*l.length
 |[]=>rfl
 |e::l=>by
  show(ZbN l).length+1+1=_
  rw[Zhc l];simp only[List.length_cons];omega
def Zax (D:List Edge):List Int:=ZG (ZbN D)
def Zbb (D:List Edge):List Int:=ZG (D.map Edge.key)
def Zb9 (ids keys:List Int) (N:Nat):List HArc→List Edge→List HArc
 |q,[]=>q
 |q,e::l=>Zb9 ids keys N (ZbP N q (toR ids keys e.arc)) l
theorem Zjz {ids keys:List Int} {N:Nat} (b:HArc):∀(l:List Edge) (q:List HArc),(∀e∈l,Zi N (toR ids keys e.arc)=true)→(b∈Zb9 ids keys N q l↔b∈q∨∃e∈l,b=toR ids keys e.arc)
 |[],q,_=>by simp[Zb9]
 |e::l,q,hr=>by
  have h1:b∈ZbP N q (toR ids keys e.arc)↔b=toR ids keys e.arc∨b∈q:=by
   unfold ZbP;rw[if_pos (hr e List.mem_cons_self)]
   split
   ·rename_i hm
    exact⟨.inr,fun h=>h.elim (fun e=>by rw[e];exact hm) id⟩
   ·exact Zbg _ _ _
  show b∈Zb9 ids keys N (ZbP N q (toR ids keys e.arc)) l↔_
  rw[Zjz b l _ (fun x hx=>hr x (List.mem_cons_of_mem _ hx)),h1]
  constructor
  ·rintro((h|h)|⟨y,hy,h⟩)
   ·exact .inr ⟨e,List.mem_cons_self,h⟩
   ·exact .inl h
   ·exact .inr ⟨y,List.mem_cons_of_mem _ hy,h⟩
  ·rintro(h|⟨y,hy,h⟩)
   ·exact .inl (.inr h)
   ·rcases List.mem_cons.1 hy with rfl|hy
    ·exact .inl (.inl h)
    ·exact .inr ⟨y,hy,h⟩
section
variable {D:List Edge}
theorem Zhe {e:Edge} (he:e∈D):e.f∈Zax D∧e.t∈Zax D:=⟨(Zd1 _ _).2 ((Zg4 _ _).2 ⟨e,he,.inl rfl⟩),(Zd1 _ _).2 ((Zg4 _ _).2 ⟨e,he,.inr rfl⟩)⟩
theorem Zf2 {e:Edge} (he:e∈D):e.key∈Zbb D:=(Zd1 _ _).2 (List.mem_map.2 ⟨e,he,rfl⟩)
theorem ZfJ (hk:∀e∈D,1≤e.k∧e.k≤3) (hl:D.length≤100000) {e:Edge} (he:e∈D):Zi (Zax D).length (toR (Zax D) (Zbb D) e.arc)=true:=by
 rw[ZC];have h1:=Zhe he;have h2:=Zf2 he;have f1:=ZdA (Zax D) e.f;have f2:=ZdA (Zax D) e.t;have f3:=ZdA (Zbb D) e.key;have g1:=(ZbX (Zb2 (ZbN D)) h1.1).1;have g2:=(ZbX (Zb2 (ZbN D)) h1.2).1;have g3:=(ZbX (Zb2 (D.map Edge.key)) h2).1;have k:=hk e he
 have hkl:(Zbb D).length≤D.length:=by
  have:=Ze8 (D.map Edge.key)
  rwa [List.length_map]at this
 exact⟨f1.1,g1,f2.1,g2,k.1,k.2,f3.1,by
  have g3':rk (Zbb D) e.key<((Zbb D).length:Int):=g3
  show rk (Zbb D) e.key≤1048575
  omega⟩
theorem ZqO (hk:∀e∈D,1≤e.k∧e.k≤3) (hl:D.length≤100000):Rk (D.map Edge.arc) (Zax D) (Zbb D) (Zb9 (Zax D) (Zbb D) (Zax D).length [] D):=by
 refine⟨Zb2 _,Zb2 _,fun a ha=> ?_,fun a ha=> ?_,fun b=> ?_⟩
 ·obtain⟨e,he,rfl⟩:=List.mem_map.1 ha;exact Zhe he
 ·obtain⟨e,he,rfl⟩:=List.mem_map.1 ha;exact Zf2 he
 ·rw[Zjz b D [] (fun e he=>ZfJ hk hl he)]
  constructor
  ·rintro(h|⟨e,he,h⟩)
   ·cases h
   ·exact⟨e.arc,List.mem_map.2 ⟨e,he,rfl⟩,h⟩
  ·rintro⟨a,ha,h⟩;obtain⟨e,he,rfl⟩:=List.mem_map.1 ha;exact .inr ⟨e,he,h⟩
end
theorem Zgg (x:Int) (j:Nat) (hj:j=1∨j=2∨j=3):Zf (bits .and .i64 x 14) (j:Int)=Zf x (j:Int):=by
 rw[Zc2 x 14 j hj];have:Zf 14 (j:Int)=true:=by rcases hj with rfl|rfl|rfl<;>rfl
 rw[this,Bool.and_true]
theorem Zo9 (x k:Int):ZU (bits .and .i64 x 14) k=ZU x k:=by
 unfold ZU
 by_cases h1:1≤k
 ·by_cases h2:k≤3
  ·obtain⟨j,rfl,hj⟩:=Zcw h1 h2;rw[Zgg x j hj]
  ·rw[decide_eq_false h2];simp
 ·rw[decide_eq_false h1];simp
theorem ZsY (mask:Int) (e:Edge):ZaP (bits .and .i64 mask 14) e= !ZU mask e.k:=by
 rw[←Zo9 mask e.k];unfold ZaP ZU
 by_cases h1:e.k<1
 ·rw[decide_eq_true h1,decide_eq_false (show¬1≤e.k by omega)];rfl
 ·rw[decide_eq_false h1,decide_eq_true (show 1≤e.k by omega)]
  by_cases h2:3<e.k
  ·rw[decide_eq_true h2,decide_eq_false (show¬e.k≤3 by omega)];rfl
  ·rw[decide_eq_false h2,decide_eq_true (show e.k≤3 by omega)];simp
theorem ZqE (x:Int) (y:Nat) (hy:y≤1000):bits .and .i64 x (y:Int)=(((x%18446744073709551616).toNat &&& y:Nat):Int):=by
 change IntKind.i64.wrap (((BitVec.ofInt 64 x &&& BitVec.ofInt 64 (y:Int)).toNat:Nat):Int)=_;have h1:(BitVec.ofInt 64 x).toNat=(x%18446744073709551616).toNat:=by rw[BitVec.toNat_ofInt];rfl
 have h2:(BitVec.ofInt 64 (y:Int)).toNat=y:=by rw[BitVec.toNat_ofInt];omega
 rw[BitVec.toNat_and,h1,h2];have h3:(x%18446744073709551616).toNat &&& y≤y:=Nat.and_le_right;exact IntWalk.i64_in _ (by omega)
theorem Zss (must:Int):(bits .and .i64 must 14 != 0)=ZaH must:=by
 have h1:=Zgg must 1 (.inl rfl);have h2:=Zgg must 2 (.inr (.inl rfl));have h3:=Zgg must 3 (.inr (.inr rfl));have hn:ZaH must=(Zf must ((1:Nat):Int)||(Zf must ((2:Nat):Int)||Zf must ((3:Nat):Int))):=rfl;rw[hn,←h1,←h2,←h3];have h:=ZqE must 14 (by decide);have h':bits .and .i64 must 14=((((must%18446744073709551616).toNat &&& 14:Nat)):Int):=h;rw[h']
 generalize (must%18446744073709551616).toNat=n
 have e1:∀j:Nat,Zf (((n &&& 14:Nat)):Int) (j:Int)=(n &&& 14).testBit j:=by
  intro j;unfold Zf;rw[Nat.testBit_eq_decide_div_mod_eq,decide_eq_decide];rw[show((j:Int).toNat)=j from Int.toNat_natCast j]
  have:(((n &&& 14:Nat):Int)/2 ^ j)%2=(((n &&& 14)/2 ^ j%2:Nat):Int):=by
   norm_cast
  rw[this];omega
 rw[e1,e1,e1]
 by_cases hz:n &&& 14=0
 ·rw[hz];rfl
 ·have hb:((((n &&& 14:Nat)):Int) != 0)=true:=by rw[bne_iff_ne];omega
  rw[hb];refine Eq.symm ?_;refine Classical.byContradiction fun hc=>hz ?_
  have hc:((n &&& 14).testBit 1||((n &&& 14).testBit 2||(n &&& 14).testBit 3))=false:=by simpa using hc
  rw[Bool.or_eq_false_iff,Bool.or_eq_false_iff]at hc;refine Nat.eq_of_testBit_eq fun i=> ?_
  rw[Nat.zero_testBit,Nat.testBit_and]
  by_cases hi:i=1∨i=2∨i=3
  ·rw[←Nat.testBit_and];rcases hi with rfl|rfl|rfl
   ·exact hc.1
   ·exact hc.2.1
   ·exact hc.2.2
  ·have:Nat.testBit 14 i=false:=by
    match i,hi with
    |0,_=>rfl
    |1,h=>exact absurd (.inl rfl) h
    |2,h=>exact absurd (.inr (.inl rfl)) h
    |3,h=>exact absurd (.inr (.inr rfl)) h
    |i+4,_=>
     refine Nat.testBit_lt_two_pow ?_;have:2 ^ (i+4)=2 ^ i*16:=by rw[Nat.pow_add]
     have:=Nat.two_pow_pos i;omega
   rw[this,Bool.and_false]
theorem Zrd {l:List Edge} {mask must:Int} (hl:l.length≤100000) {q:List HArc} (ids keys:List Int) (hids:ids=Zax (Ze l mask)) (hkeys:keys=Zbb (Ze l mask)) (hq:q=Zb9 ids keys ids.length [] (Ze l mask)) (hs:Z3 q) (ks:Int→Int) (ws:Int→List HArc)
  (hk:∀i:Int,0≤i→i<(ids.length:Int)→ks i=Z7 (ofA (bits .and .i64 mask 14) q) (bits .and .i64 must 14) i (Z1 ids.length q (bits .and .i64 mask 14) i) (Zp ids.length q (bits .and .i64 mask 14) (bits .and .i64 must 14) i) (ZaH must))
  (hk2:∀i:Int,0≤i→(ids.length:Int)≤i→ks i=0) (hk3:∀i:Int,i<0→ks i=0)
  (hw:∀i:Int,0≤i→i<(ids.length:Int)→ws i=ZB (ofA (bits .and .i64 mask 14) q) (bits .and .i64 must 14) i (Z1 ids.length q (bits .and .i64 mask 14) i) (Zp ids.length q (bits .and .i64 mask 14) (bits .and .i64 must 14) i) (ks i).toNat i (ZaH must)):
  ZI l mask must=(ZF ks ws ids.length).map (ZcQ ids keys)∧∀a∈ZF ks ws ids.length,Zi ids.length a=true∧a.label<(keys.length:Int):=by
 have hkD:∀e∈Ze l mask,1≤e.k∧e.k≤3:=fun e he=>by
  have:=ZaO (List.mem_filter.1 he).2;exact⟨this.1,this.2.1⟩
 have hlD:(Ze l mask).length≤100000:=Nat.le_trans (List.length_filter_le _ _) hl;have hR:=ZqO hkD hlD;rw[←hids,←hkeys,←hq]at hR
 have hr:∀a∈q,Zi ids.length a=true:=fun a ha=>by
  obtain⟨b,hb,rfl⟩:=(hR.mq a).1 ha;obtain⟨e,he,rfl⟩:=List.mem_map.1 hb;rw[hids,hkeys];exact ZfJ hkD hlD he
 have hlab:∀a∈q,a.label<(keys.length:Int):=fun a ha=>by
  obtain⟨b,hb,rfl⟩:=(hR.mq a).1 ha;exact(ZbX hR.sk (hR.ml b hb)).1
 have hof:ofA (bits .and .i64 mask 14) q=q:=by
  unfold ofA;rw[List.filter_eq_self];intro a ha;obtain⟨b,hb,rfl⟩:=(hR.mq a).1 ha;obtain⟨e,he,rfl⟩:=List.mem_map.1 hb;have h1:=(List.mem_filter.1 he).2;rw[←Zo9]at h1;exact(ZaO h1).2.2
 have hmust:∀a∈(Ze l mask).map Edge.arc,isM (bits .and .i64 must 14) a=isM must a:=fun a ha=>by
  obtain⟨e,he,rfl⟩:=List.mem_map.1 ha;obtain⟨j,hj,hj2⟩:=Zcw (hkD e he).1 (hkD e he).2
  show Zf _ e.k=Zf _ e.k
  rw[hj,Zgg must j hj2]
 have hmap:∀c:List HArc,(c.map (unR ids keys))=(c.map (ZcQ ids keys)).map Edge.arc:=fun c=>by
  rw[List.map_map];exact List.map_congr_left fun _ _=>rfl
 rcases ZiC hr hs (bits .and .i64 mask 14) (bits .and .i64 must 14) (ZaH must) ks ws hk hk2 hk3 hw with ⟨e,h⟩|⟨v,h0,h1,h⟩
 ·rw[hof]at h;rw[e];exact⟨ZjU ((hR.none h).must hmust),fun a ha=>by cases ha⟩
 ·rw[hof]at h;refine⟨?_,fun a ha=>⟨hr a (Za1 h.w a ha),hlab a (Za1 h.w a ha)⟩⟩;have h2:=Ziu ((hR.short h0 h1 h).must hmust);rw[hmap]at h2;exact ZgJ h2
theorem Zgx (l:List Edge) (mask must:Int) (hl:l.length≤100000):(ZI l mask must=[]∧NoWay ((Ze l mask).map Edge.arc) must (ZaH must))∨∃v,Short ((Ze l mask).map Edge.arc) must (ZaH must) v ((ZI l mask must).map Edge.arc):=by
 have hkD:∀e∈Ze l mask,1≤e.k∧e.k≤3:=fun e he=>by
  have:=ZaO (List.mem_filter.1 he).2;exact⟨this.1,this.2.1⟩
 have hlD:(Ze l mask).length≤100000:=Nat.le_trans (List.length_filter_le _ _) hl;have hR:=ZqO hkD hlD;obtain⟨q,hq⟩:∃q,(Zb9 (Zax (Ze l mask)) (Zbb (Ze l mask)) (Zax (Ze l mask)).length [] (Ze l mask))=q:=⟨_,rfl⟩;rw[hq]at hR
 have hs:Z3 q:=by
  rw[←hq]
  have:∀(m:List Edge) (q:List HArc),Z3 q→Z3 (Zb9 (Zax (Ze l mask)) (Zbb (Ze l mask)) (Zax (Ze l mask)).length q m):=by
   intro m
   induction m with
   |nil=>exact fun q h=>h
   |cons e m ih=>
    intro q h;refine ih _ ?_;unfold ZbP
    split
    ·split
     ·exact h
     ·exact Zc6 _ _ h
    ·exact h
  exact this _ _ List.Pairwise.nil
 have hr:∀a∈q,Zi (Zax (Ze l mask)).length a=true:=fun a ha=>by
  obtain⟨b,hb,rfl⟩:=(hR.mq a).1 ha;obtain⟨e,he,rfl⟩:=List.mem_map.1 hb;exact ZfJ hkD hlD he
 have hof:ofA 14 q=q:=by
  unfold ofA;rw[List.filter_eq_self];intro a ha;obtain⟨b,hb,rfl⟩:=(hR.mq a).1 ha;obtain⟨e,he,rfl⟩:=List.mem_map.1 hb;obtain⟨j,hj,hj2⟩:=Zcw (hkD e he).1 (hkD e he).2
  show Zf 14 e.k=true
  rw[hj];rcases hj2 with rfl|rfl|rfl<;>rfl
 have hb:=ZiC hr hs 14 must (ZaH must) (fun i=>if 0≤i∧i<((Zax (Ze l mask)).length:Int) then Z7 (ofA 14 q) must i (Z1 (Zax (Ze l mask)).length q 14 i) (Zp (Zax (Ze l mask)).length q 14 must i) (ZaH must) else 0)
  (fun i=>ZB (ofA 14 q) must i (Z1 (Zax (Ze l mask)).length q 14 i) (Zp (Zax (Ze l mask)).length q 14 must i) (if 0≤i∧i<((Zax (Ze l mask)).length:Int) then Z7 (ofA 14 q) must i (Z1 (Zax (Ze l mask)).length q 14 i) (Zp (Zax (Ze l mask)).length q 14 must i) (ZaH must) else 0).toNat i (ZaH must))
  (fun i h0 h1=>if_pos ⟨h0,h1⟩) (fun i _ h1=>if_neg (fun e=>by omega)) (fun i h1=>if_neg (fun e=>by omega)) (fun i _ _=>rfl)
 rw[hof]at hb;rcases hb with ⟨_,h⟩|⟨v,h0,h1,h⟩
 ·have h3:=hR.none h;exact .inl ⟨ZjU h3,h3⟩
 ·have h3:=hR.short h0 h1 h;rw[←Ziu h3]at h3;exact .inr ⟨_,h3⟩
end
/- Closed walks:the numbers of some edges. -/
section
open Go.RowKit
theorem ZiK {P:Program} (w:World) (g i:Nat) (t ty:TypeId) (old:Array Value) (v:Value) (hg:w.heap[g]? =some (.cells old t (0,0))) (hi:(P.info? ty).map (·.size)=some 1)
  (ho:i<old.size) (h1:v.oneCell'=true):
  (storeVar ty ⟨g,i,none⟩ v).run P w= .ok () (w.setCell ⟨g,i,none⟩ v):=by
 have hst:∀m,(store ⟨g,i,none⟩ v m).run P w= .ok () (w.setCell ⟨g,i,none⟩ v):=fun m=>by
  rw[run_store P w _ v m h1];simp[World.cell?,World.frozen?,hg,ho]
 have hadd:(⟨g,i,none⟩:Addr).add 0=⟨g,i,none⟩:=by unfold Addr.add;simp
 have hsc:(storeCells ⟨g,i,none⟩ [v] 0).run P w= .ok () (w.setCell ⟨g,i,none⟩ v):=by
  simp only[storeCells,Sem.run_bind,hadd,hst,Result.andThen_ok];rfl
 cases hq:P.info? ty with
 |none=>simp[hq]at hi
 |some j=>
  have hs:j.size=1:=by simpa[hq]using hi
  cases v<;>first|(simp[Value.oneCell']at h1;done)|simp[storeVar,sizeOf,typeInfo,hq,hs,Value.cells,hsc]
theorem Zrc {P:Program} {o:Oper} {a:Act} {W:World} {K:Act→World→Prop} {Q:Exit→Act→World→Prop} {ty:TypeId} {x y:Operand} (ho:o.op= .store ty x y)
  {g i:Nat} {t:TypeId} {old:List Value} {v:Value} (hx:a.eval x= .pointer (some ⟨g,i,none⟩)) (hy:a.eval y=v) (hb:Blk W g t old) (hi:(P.info? ty).map (·.size)=some 1) (hl:i<old.length) (h1:v.oneCell'=true)
  (h:∀w',Blk w' g t (old.set i v)→Upd (One g) W w'→K (a.put o.dst undef) w'):o.wp P a W K Q:=by
 unfold Oper.wp execOp;simp only[ho,hx,hy,Instr.storeAt,Instr.sureAddr,Sem.run_bind,Sem.run_pure,Result.andThen_ok,ZiK W g i t ty old.toArray v hb hi (by simpa using hl) h1];exact h _ (hb.set_ i v) ((Upd.refl (One g) W).setOne i v)
theorem Zv {P:Program} {ops:Array Oper} {o:Oper} {a:Act} {W:World} {K:Act→World→Prop} {Q:Exit→Act→World→Prop} {E:Prop} (hgd:o.guard=none) {ty:TypeId} {x y:Operand} (ho:o.op= .store ty x y)
  {g i:Nat} {t:TypeId} {old:List Value} {v:Value} (hx:a.eval x= .pointer (some ⟨g,i,none⟩)) (hy:a.eval y=v) (hb:Blk W g t old) (hi:(P.info? ty).map (·.size)=some 1) (hl:i<old.length) (h1:v.oneCell'=true)
  (h:∀w',Blk w' g t (old.set i v)→Upd (One g) W w'→K (a.put o.dst undef) w'):if Region.wanted o (yielded ops a.tmps)=true then Oper.wp P o a W K Q else E:=by
 rw[if_pos (by simp[Region.wanted,hgd])];exact Zrc ho hx hy hb hi hl h1 h
theorem Zb {A:Option Addr} {n m c d i:Nat} (h:Own (.slice A n c) i):Own (.slice A m d) i:=by
 cases A with
 |none=>cases h
 |some a=>exact h
theorem Zl7 {W:World} {cs:List Value} {e:TypeId} {n m:Nat} (hn:n=W.heap.size) (hm:cs.length=m):Src (W.alloc (.cells cs.toArray e)) (some ⟨n,0,none⟩) m 1 cs:=by
 subst hn;exact⟨by omega,fun _=>⟨_,rfl,fun j v hj=>Zcv j v hj⟩⟩
set_option maxRecDepth 100000 in
set_option maxHeartbeats 8000000 in
theorem ZsM (F:Nat→Prop) (w:World) (A:Option Addr) (c:Nat) (l:List Edge) (h:Walk F w A l) (hl:l.length≤1000000):
  Calls Tryz.prog 114 #[.slice A l.length c] w fun e w'=>∃A1 c1 A2 c2,e= .returned (.agg #[.slice A1 (Zax l).length c1,.slice A2 (Zbb l).length c2])∧Ints (fun i=>w.heap.size≤i) w' A1 (Zax l)∧Ints (fun i=>w.heap.size≤i) w' A2 (Zbb l)∧Upd No w w':=by
 have HA:=Qh h;have HL:=Qh (show(ZbN l).length=2*l.length from Zhc l);clear h
 go_enter Tryz.func114,Tryz.ntmps114
 go_wp2
 go_loopg [8] l.length (fun gk i wr=>∃(k:Nat) (A1:Option Addr) (c1:Nat) (xs:List Int) (A2:Option Addr) (c2:Nat) (ys:List Int),k+gk=l.length∧i= .int .i64 k∧Hid (xs++ZbN (l.drop k)=ZbN l)∧Hid (ys++(l.drop k).map Edge.key=l.map Edge.key)∧xs.length=2*k∧ys.length=k∧
  Blk wr (w.heap.size+1) 179 [.slice A1 xs.length c1,.slice A2 ys.length c2]∧Blk wr w.heap.size 179 [.slice none 0 0,.slice none 0 0]∧
  wr.ownsRow (w.heap.size+2) 3 1 (.slice A1 xs.length c1) xs.length (xs.map (Value.int .i64))∧wr.ownsRow (w.heap.size+2) 3 1 (.slice A2 ys.length c2) ys.length (ys.map (Value.int .i64))∧(∀i,Own (.slice A1 0 0) i→¬Own (.slice A2 0 0) i)∧Upd No w wr)
 case atStart=>
  refine⟨0,none,0,[],none,0,[],by omega,rfl,Qh rfl,Qh rfl,rfl,rfl,?_,?_,World.ownsRow_nil _ _ _ _,World.ownsRow_nil _ _ _ _,?_,?_⟩
  ·simpa using Blk.new (w.alloc (.cells #[.slice none 0 0,.slice none 0 0] 179)) 179 [.slice none 0 0,.slice none 0 0]
  ·exact(Blk.new w 179 [.slice none 0 0,.slice none 0 0]).alloc _
  ·intro i e;exact(by cases e)
  ·exact((Upd.refl No w).alloc _).alloc _
 case round=>
  obtain⟨k,A1,c1,xs,A2,c2,ys,hgk,rfl,hx,hy,hxl,hyl,bN,bR,ho1,ho2,hd,hu⟩:=hrel
  by_cases hlt:k<l.length
  ·obtain⟨ax,rfl,q0,q1,q2,q3⟩:=(HA.out.upd hu (fun _ _=>id)).at_ hlt;obtain⟨x,hxx⟩:∃x,l[k]=x:=⟨_,rfl⟩;have hdr:=List.drop_eq_getElem_cons hlt;rw[hxx]at q0 q1 q2 q3 hdr;have HX:=Qh (show(xs++[x.f,x.t])++ZbN (l.drop (k+1))=ZbN l by rw[←hx.out,hdr];simp[ZbN]);have HY:=Qh (show(ys++[x.key])++(l.drop (k+1)).map Edge.key=l.map Edge.key by rw[←hy.out,hdr];simp);have i1:(0:Int)≤(k:Int):=Qn _;have i2:(k:Int)<(l.length:Int):=by omega
   obtain⟨wx,hwx⟩:∃wx,wr.alloc (.cells #[.int .i64 x.f,.int .i64 x.t,.int .i64 x.k,.int .i64 x.key] 26)=wx:=⟨_,rfl⟩;have ux:Upd No wr wx:=by rw[←hwx];exact(Upd.refl No wr).alloc _
   have bo:Blk wx wr.heap.size 26 [.int .i64 x.f,.int .i64 x.t,.int .i64 x.k,.int .i64 x.key]:=by rw[←hwx];exact Blk.new wr _ _
   have hsx:wx.heap.size=wr.heap.size+1:=by rw[←hwx];simp
   have HUX:=Qh (hu.trans ux);have hNl:=bN.lt;have bNx:=bN.upd ux id;have HBR:=Qh (bR.upd ux id);have g0:=bo.cell 0;have g1:=bo.cell 1;have g2:=bo.cell 2;have g3:=bo.cell 3;have c0:=bNx.cell 0;have c1':=bNx.cell 1;simp only[Qz,Qs]at g0 g1 g2 g3 c0 c1';have HG1:=Qh (fun i e=>ho1.lt i e);have HG2:=Qh (fun i e=>ho2.lt i e);have HO1:=Qh (Za ho1 ux (fun _ _=>id));have HO2:=Qh (Za ho2 ux (fun _ _=>id));have HD:=Qh hd;have BO:=Qh bo;have BN:=Qh bNx;have HXL:=Qh hxl;have HYL:=Qh hyl;have ne1:¬w.heap.size+1=wr.heap.size:=by omega
   have ne2:¬wr.heap.size=w.heap.size+1:=by omega
   clear bN bR ho1 ho2 hd ux bo bNx hdr hxx hx hy hxl hyl
   go_wp2_with (at_builtin;(first
    |(refine Zht rfl rfl Za0 (v:= .slice A1 xs.length c1) (n:=xs.length) (m:=2) (xs:=xs.map (Value.int .i64)) (news:=[.int .i64 x.f,.int .i64 x.t]) rfl rfl (Za HO1.out ((Upd.refl No _).alloc _) (fun _ _=>id)) (Zl7 hsx.symm rfl) (by simp[Value.oneCell']) (by have:=HXL.out;omega) (by have:=HXL.out;omega) (by simp;omega) ?_
      intro v4 w4 hown4 hu4 hg4;obtain⟨A4,c4,rfl⟩:=Zab hown4;have U4:Upd (Own (.slice A1 xs.length c1)) wx w4:=((Upd.refl _ wx).alloc _).trans hu4;have hs4:=U4.size;have bN4:=BN.out.upd U4 (fun e=>by have:=(HG1.out _ e).1;omega);have bo4:=BO.out.upd U4 (fun e=>by have:=(HG1.out _ e).2;omega);have HBR4:=Qh (HBR.out.upd U4 (fun e=>by have:=(HG1.out _ e).1;omega));have HO24:=Qh (Za HO2.out U4 (fun i e e2=>HD.out i (Zb e2) (Zb e)));have HUX4:=Qh (HUX.out.then_ U4 (fun i e=> .inr (by have:=(HG1.out i e).1;omega)))
      have HG4:=Qh (fun i (e:Own (.slice A4 (xs.length+2) c4) i)=>(show w.heap.size+2≤i∧i<w4.heap.size∧¬Own (.slice A2 0 0) i from⟨(hown4.lt i e).1,(hown4.lt i e).2,fun e2=>by
       rcases hg4 with e3|⟨j,e3,e4⟩
       ·exact HD.out i (Zb (n:=xs.length) (c:=c1) (by unfold Own at e ⊢;rw[←e3];exact e)) e2
       ·have h5:=(HG2.out i (Zb e2)).2;have:i=j:=by unfold Own at e;rw[e3]at e;injection e with e;exact e.symm
        simp at e4;omega⟩))
      have k0:=bN4.cell 0;have k1:=bN4.cell 1;have k3:=bo4.cell 3;have fr0:=bN4.free 0;simp only[Qz,Qs]at k0 k1 k3;have BN4:=Qh bN4;have HO4:=Qh hown4;clear bN4 bo4 U4 hu4 hg4 hown4 c0 c1' g0 g1 g2 g3 q0 q1 q2 q3)
    |(refine Zht rfl rfl Za0 (v:= .slice A2 ys.length c2) (n:=ys.length) (m:=1) (xs:=ys.map (Value.int .i64)) (news:=[.int .i64 x.key]) rfl rfl (Za (Za HO24.out ((Upd.refl (One (w.heap.size+1)) w4).setOne 0 _) (fun i e e2=>by have:=(HG2.out i (Zb e)).1;unfold One at e2;omega)) ((Upd.refl No _).alloc _) (fun _ _=>id)) (Zl7 (by simp) rfl) (by simp[Value.oneCell']) (by have:=HYL.out;omega) (by have:=HYL.out;omega) (by simp;omega) ?_
      intro v6 w6 hown6 hu6 hg6;obtain⟨A6,c6,rfl⟩:=Zab hown6;have U5:=(Upd.refl (One (w.heap.size+1)) w4).setOne 0 (.slice A4 (xs.length+2) c4);have U6:Upd (Own (.slice A2 ys.length c2)) (w4.setCell ⟨w.heap.size+1,0,none⟩ (.slice A4 (xs.length+2) c4)) w6:=((Upd.refl _ _).alloc _).trans hu6;have hs6:=U6.size;simp only[World.size_setCell]at hs6;have bN6:=(BN4.out.set_ 0 (.slice A4 (xs.length+2) c4)).upd U6 (fun e=>by have:=(HG2.out _ e).1;omega);have HBR6:=Qh ((HBR4.out.upd U5 (by unfold One;omega)).upd U6 (fun e=>by have:=(HG2.out _ e).1;omega));have HO46:=Qh (Za (Za HO4.out U5 (fun i e e2=>by have:=(HG4.out i e).1;unfold One at e2;omega)) U6 (fun i e e2=>(HG4.out i e).2.2 (Zb e2)));have HUX6:=Qh ((HUX4.out.then_ U5 (fun i e=> .inr (by unfold One at e;omega))).then_ U6 (fun i e=> .inr (by have:=(HG2.out i e).1;omega)))
      have HG6:=Qh (fun i (e:Own (.slice A6 (ys.length+1) c6) i)=>(show w.heap.size+2≤i∧¬Own (.slice A4 0 0) i from⟨(hown6.lt i e).1,fun e2=>by
       rcases hg6 with e3|⟨j,e3,e4⟩
       ·exact(HG4.out i (Zb e2)).2.2 (Zb (n:=ys.length) (c:=c2) (by unfold Own at e ⊢;rw[←e3];exact e))
       ·have h5:=(HG4.out i (Zb e2)).2.1;have:i=j:=by unfold Own at e;rw[e3]at e;injection e with e;exact e.symm
        simp at e4;omega⟩))
      have k0:=bN6.cell 0;have k1:=bN6.cell 1;have fr1:=bN6.free 1;simp only[List.set_cons_zero,Qz,Qs]at k0 k1;have BN6:=Qh bN6;have HO6:=Qh hown6;clear bN6 U6 U5 hu6 hg6 hown6)))
   go_roundg (gk-1)
   case measure=>omega
   case rel=>
    have U7:=(Upd.refl (One (w.heap.size+1)) w6).setOne 1 (.slice A6 (ys.length+1) c6);have b7:=BN6.out.set_ 1 (.slice A6 (ys.length+1) c6);simp only[List.set_cons_zero,List.set_cons_succ]at b7;refine⟨k+1,A4,c4,xs++[x.f,x.t],A6,c6,ys++[x.key],by omega,by go_num,HX,HY,by have:=HXL.out;simp;omega,by have:=HYL.out;simp;omega,by simpa using b7,HBR6.out.upd U7 (by unfold One;omega),?_,?_,fun i e e2=>(HG6.out i (Zb e2)).2 (Zb e),HUX6.out.then_ U7 (fun i e=> .inr (by unfold One at e;omega))⟩
    ·have:=Za HO46.out U7 (fun i e e2=>by have:=(HG4.out i e).1;unfold One at e2;omega)
     simpa using this
    ·have:=Za HO6.out U7 (fun i e e2=>by have:=(HG6.out i e).1;unfold One at e2;omega)
     simpa using this
  ·obtain rfl:k=l.length:=by omega
   have hxs:xs=ZbN l:=by have:=hx.out;rw[List.drop_length]at this;simpa[ZbN]using this
   have hys:ys=l.map Edge.key:=by have:=hy.out;rw[List.drop_length]at this;simpa using this
   have hEx:ZG xs=Zax l:=by rw[hxs];rfl
   have hEy:ZG ys=Zbb l:=by rw[hys];rfl
   have HEX:=Qh hEx;have HEY:=Qh hEy;have HXL:=Qh hxl;have HYL:=Qh hyl;have HN:=Qh bN;have HR:=Qh bR;have HO1:=Qh (Za ho1 ((Upd.refl No wr).drew) (fun _ _=>id));have HO2:=Qh (Za ho2 ((Upd.refl No wr).drew) (fun _ _=>id));have HG1:=Qh (fun i (e:Own (.slice A1 0 0) i)=>(ho1.lt i (Zb e)).1);have HG2:=Qh (fun i (e:Own (.slice A2 0 0) i)=>(ho2.lt i (Zb e)).1);have HD:=Qh hd;have HU:=Qh hu;have c0:=bN.cell 0;have c1':=bN.cell 1;simp only[Qz,Qs]at c0 c1';clear hxs hys hEx hEy bN bR ho1 ho2 hd hx hy hu hxl hyl;go_wp2;refine wp_region_noPanic ?_;refine wp_region_held_drew (S:=(fun w'=>Upd (fun i=>w.heap.size≤i) w w')) (by kernel_rfl) ?_ (fun hHeld=> ?_)
   ·(first|exact((HU.out.mono (fun _ _ e=>e.elim)).drew)|exact hHeld|exact hHeld.trans hq)
   refine wpK 0 rfl ?_;refine wpK 3 rfl ?_;refine wpR [1,4] ?_;refine wpC rfl (fun K hK=> ?_) ?_
   ·go_simp;refine hK.out _ _ ?_ (fun hHeld=> ?_)
    ·(first|exact((HU.out.mono (fun _ _ e=>e.elim)).drew)|exact hHeld|exact hHeld.trans hq)
    clear hK K
    try simp only[Act.put,sT,sS,sZ]
    refine wpR [2,4] ?_;refine wpC rfl (fun K hK=> ?_) ?_
    ·go_simp
     (first
    |(go_at_call 183;refine(ZeX wr.drew _ A1 c1 xs HO1.out (by have:=HXL.out;omega)).mono ?_;rintro e w4 ⟨rfl,ho4,hu4⟩;have HN4:=Qh ((show Blk wr.drew _ _ _ from HN.out).upd hu4 (fun e=>by have:=HG1.out _ (Zb e);omega));have HR4:=Qh ((show Blk wr.drew _ _ _ from HR.out).upd hu4 (fun e=>by have:=HG1.out _ (Zb e);omega));have HO14:=Qh ho4;have HO24:=Qh (Za HO2.out hu4 (fun i e e2=>HD.out i (Zb e2) (Zb e)));have hq:Upd (fun i=>w.heap.size≤i) wr.drew w4:=hu4.mono (fun i _ e=>by have:=HG1.out _ (Zb e);omega);have c41:=HN4.out.cell 1;simp only[Qz,Qs]at c41))
     try (go_wp2_with fail)
     refine hK.out _ _ ?_ (fun hHeld=> ?_)
     ·(first|exact((HU.out.mono (fun _ _ e=>e.elim)).drew)|exact hHeld|exact hHeld.trans hq)
     clear hK K
     try simp only[Act.put,sT,sS,sZ]
     refine wpR [4] ?_;refine wpC rfl (fun K hK=> ?_) AllReadyH.nil;go_simp;refine hK.out _ _ ?_ (fun hHeld=> ?_)
     ·(first|exact((HU.out.mono (fun _ _ e=>e.elim)).drew)|exact hHeld|exact hHeld.trans hq)
     clear hK K
     try simp only[Act.put,sT,sS,sZ]
     refine wpK 6 rfl ?_;refine wpR [5] ?_;refine wpC rfl (fun K hK=> ?_) AllReadyH.nil;go_simp
     (first
    |(go_at_call 183;refine(ZeX w4 _ A2 c2 ys HO24.out (by have:=HYL.out;omega)).mono ?_;rintro e w5 ⟨rfl,ho5,hu5⟩;have HN5:=Qh (HN4.out.upd hu5 (fun e=>by have:=HG2.out _ (Zb e);omega));have HR5:=Qh (HR4.out.upd hu5 (fun e=>by have:=HG2.out _ (Zb e);omega));have HO25:=Qh ho5;have HO15:=Qh (Za HO14.out hu5 (fun i e e2=>HD.out i (Zb e) (Zb e2)));have hq:Upd (fun i=>w.heap.size≤i) w4 w5:=hu5.mono (fun i _ e=>by have:=HG2.out _ (Zb e);omega)))
     try (go_wp2_with fail)
     refine hK.out _ _ ?_ (fun hHeld=> ?_)
     ·(first|exact((HU.out.mono (fun _ _ e=>e.elim)).drew)|exact hHeld|exact hHeld.trans hq)
     clear hK K
     try simp only[Act.put,sT,sS,sZ]
     refine wpR [7] ?_;refine wpC rfl (fun K hK=> ?_) AllReadyH.nil
     (first
    |(refine Zv rfl rfl (g:=w.heap.size+1) (i:=0) (v:= .slice A1 (ZG xs).length c1) rfl rfl HN5.out (by kernel_rfl) (by simp) rfl ?_;intro w6 hb6 hu6;have HN6:=Qh hb6;have HR6:=Qh (HR5.out.upd hu6 (by unfold One;omega));have HO16:=Qh (Za HO15.out hu6 (fun i e e2=>by have:=HG1.out _ (Zb e);unfold One at e2;omega));have HO26:=Qh (Za HO25.out hu6 (fun i e e2=>by have:=HG2.out _ (Zb e);unfold One at e2;omega));have hq:Upd (fun i=>w.heap.size≤i) w5 w6:=hu6.mono (fun i _ e=>by unfold One at e;omega))
    |(refine Zv rfl rfl (g:=w.heap.size+1) (i:=1) (v:= .slice A2 (ZG ys).length c2) rfl rfl HN6.out (by kernel_rfl) (by simp) rfl ?_;intro w7 hb7 hu7;have HN7:=Qh hb7;have HR7:=Qh (HR6.out.upd hu7 (by unfold One;omega));have HO17:=Qh (Za HO16.out hu7 (fun i e e2=>by have:=HG1.out _ (Zb e);unfold One at e2;omega));have HO27:=Qh (Za HO26.out hu7 (fun i e e2=>by have:=HG2.out _ (Zb e);unfold One at e2;omega));have hq:Upd (fun i=>w.heap.size≤i) w6 w7:=hu7.mono (fun i _ e=>by unfold One at e;omega)))
     refine hK.out _ _ ?_ (fun hHeld=> ?_)
     ·(first|exact((HU.out.mono (fun _ _ e=>e.elim)).drew)|exact hHeld|exact hHeld.trans hq)
     clear hK K
     try simp only[Act.put,sT,sS,sZ]
     refine wpK 8 rfl ?_;refine wpR [9] ?_;refine wpC rfl (fun K hK=> ?_) AllReadyH.nil
     (first
    |(refine Zv rfl rfl (g:=w.heap.size+1) (i:=0) (v:= .slice A1 (ZG xs).length c1) rfl rfl HN5.out (by kernel_rfl) (by simp) rfl ?_;intro w6 hb6 hu6;have HN6:=Qh hb6;have HR6:=Qh (HR5.out.upd hu6 (by unfold One;omega));have HO16:=Qh (Za HO15.out hu6 (fun i e e2=>by have:=HG1.out _ (Zb e);unfold One at e2;omega));have HO26:=Qh (Za HO25.out hu6 (fun i e e2=>by have:=HG2.out _ (Zb e);unfold One at e2;omega));have hq:Upd (fun i=>w.heap.size≤i) w5 w6:=hu6.mono (fun i _ e=>by unfold One at e;omega))
    |(refine Zv rfl rfl (g:=w.heap.size+1) (i:=1) (v:= .slice A2 (ZG ys).length c2) rfl rfl HN6.out (by kernel_rfl) (by simp) rfl ?_;intro w7 hb7 hu7;have HN7:=Qh hb7;have HR7:=Qh (HR6.out.upd hu7 (by unfold One;omega));have HO17:=Qh (Za HO16.out hu7 (fun i e e2=>by have:=HG1.out _ (Zb e);unfold One at e2;omega));have HO27:=Qh (Za HO26.out hu7 (fun i e e2=>by have:=HG2.out _ (Zb e);unfold One at e2;omega));have hq:Upd (fun i=>w.heap.size≤i) w6 w7:=hu7.mono (fun i _ e=>by unfold One at e;omega)))
     refine hK.out _ _ ?_ (fun hHeld=> ?_)
     ·(first|exact((HU.out.mono (fun _ _ e=>e.elim)).drew)|exact hHeld|exact hHeld.trans hq)
     clear hK K
     try simp only[Act.put,sT,sS,sZ]
     refine wpD (NoPanic.normal ?_);have m0:=HN7.out.cell 0;have m1:=HN7.out.cell 1;have s0:=HR7.out.cell 0;have s1:=HR7.out.cell 1;have t0:=HR7.out.free 0;have t1:=HR7.out.free 1;simp only[List.set_cons_zero,List.set_cons_succ,Qz,Qs]at m0 m1 s0 s1;have HZ:=Qh hHeld;clear hHeld hq hb6 hb7 ho4 ho5 hu4 hu5 hu6 hu7 c0 c1' c41 HN4 HN5 HN6 HN7 HR4 HR5 HR6 HO14 HO24 HO15 HO25 HO16 HO26;go_wp2;have b9:=(HR7.out.set_ 0 (.slice A1 (ZG xs).length c1)).set_ 1 (.slice A2 (ZG ys).length c2);simp only[List.set_cons_zero,List.set_cons_succ]at b9;have US:=((Upd.refl (One w.heap.size) w7).setOne 0 (.slice A1 (ZG xs).length c1)).setOne 1 (.slice A2 (ZG ys).length c2);refine bodyPost_ret (results_cell_row (p:=2) rfl _ _ _ _ _ _ _ rfl b9 Tryz.underlying179 rfl (by kernel_rfl)) rfl ⟨A1,c1,A2,c2,by rw[←HEX.out,←HEY.out],?_,?_,?_⟩
     ·rw[←HEX.out];exact(Ints.of_owned (Za HO17.out US (fun i e e2=>by have:=HG1.out _ (Zb e);unfold One at e2;omega))).weak (fun i _ h=>by omega)
     ·rw[←HEY.out];exact(Ints.of_owned (Za HO27.out US (fun i e e2=>by have:=HG2.out _ (Zb e);unfold One at e2;omega))).weak (fun i _ h=>by omega)
     ·exact((Upd.refl No w).then_ (HZ.out.then_ US (fun i e=> .inr (by unfold One at e;omega))) (fun i e=> .inr e))
    refine wpC rfl (fun K hK=> ?_) AllReadyH.nil;go_simp;refine hK.out _ _ ?_ (fun hHeld=> ?_)
    ·(first|exact((HU.out.mono (fun _ _ e=>e.elim)).drew)|exact hHeld|exact hHeld.trans hq)
    clear hK K
    try simp only[Act.put,sT,sS,sZ]
    refine wpR [2] ?_;refine wpC rfl (fun K hK=> ?_) AllReadyH.nil;go_simp
    (first
   |(go_at_call 183;refine(ZeX wr.drew _ A1 c1 xs HO1.out (by have:=HXL.out;omega)).mono ?_;rintro e w4 ⟨rfl,ho4,hu4⟩;have HN4:=Qh ((show Blk wr.drew _ _ _ from HN.out).upd hu4 (fun e=>by have:=HG1.out _ (Zb e);omega));have HR4:=Qh ((show Blk wr.drew _ _ _ from HR.out).upd hu4 (fun e=>by have:=HG1.out _ (Zb e);omega));have HO14:=Qh ho4;have HO24:=Qh (Za HO2.out hu4 (fun i e e2=>HD.out i (Zb e2) (Zb e)));have hq:Upd (fun i=>w.heap.size≤i) wr.drew w4:=hu4.mono (fun i _ e=>by have:=HG1.out _ (Zb e);omega);have c41:=HN4.out.cell 1;simp only[Qz,Qs]at c41))
    try (go_wp2_with fail)
    refine hK.out _ _ ?_ (fun hHeld=> ?_)
    ·(first|exact((HU.out.mono (fun _ _ e=>e.elim)).drew)|exact hHeld|exact hHeld.trans hq)
    clear hK K
    try simp only[Act.put,sT,sS,sZ]
    refine wpK 6 rfl ?_;refine wpR [5] ?_;refine wpC rfl (fun K hK=> ?_) AllReadyH.nil;go_simp
    (first
   |(go_at_call 183;refine(ZeX w4 _ A2 c2 ys HO24.out (by have:=HYL.out;omega)).mono ?_;rintro e w5 ⟨rfl,ho5,hu5⟩;have HN5:=Qh (HN4.out.upd hu5 (fun e=>by have:=HG2.out _ (Zb e);omega));have HR5:=Qh (HR4.out.upd hu5 (fun e=>by have:=HG2.out _ (Zb e);omega));have HO25:=Qh ho5;have HO15:=Qh (Za HO14.out hu5 (fun i e e2=>HD.out i (Zb e) (Zb e2)));have hq:Upd (fun i=>w.heap.size≤i) w4 w5:=hu5.mono (fun i _ e=>by have:=HG2.out _ (Zb e);omega)))
    try (go_wp2_with fail)
    refine hK.out _ _ ?_ (fun hHeld=> ?_)
    ·(first|exact((HU.out.mono (fun _ _ e=>e.elim)).drew)|exact hHeld|exact hHeld.trans hq)
    clear hK K
    try simp only[Act.put,sT,sS,sZ]
    refine wpR [7] ?_;refine wpC rfl (fun K hK=> ?_) AllReadyH.nil
    (first
   |(refine Zv rfl rfl (g:=w.heap.size+1) (i:=0) (v:= .slice A1 (ZG xs).length c1) rfl rfl HN5.out (by kernel_rfl) (by simp) rfl ?_;intro w6 hb6 hu6;have HN6:=Qh hb6;have HR6:=Qh (HR5.out.upd hu6 (by unfold One;omega));have HO16:=Qh (Za HO15.out hu6 (fun i e e2=>by have:=HG1.out _ (Zb e);unfold One at e2;omega));have HO26:=Qh (Za HO25.out hu6 (fun i e e2=>by have:=HG2.out _ (Zb e);unfold One at e2;omega));have hq:Upd (fun i=>w.heap.size≤i) w5 w6:=hu6.mono (fun i _ e=>by unfold One at e;omega))
   |(refine Zv rfl rfl (g:=w.heap.size+1) (i:=1) (v:= .slice A2 (ZG ys).length c2) rfl rfl HN6.out (by kernel_rfl) (by simp) rfl ?_;intro w7 hb7 hu7;have HN7:=Qh hb7;have HR7:=Qh (HR6.out.upd hu7 (by unfold One;omega));have HO17:=Qh (Za HO16.out hu7 (fun i e e2=>by have:=HG1.out _ (Zb e);unfold One at e2;omega));have HO27:=Qh (Za HO26.out hu7 (fun i e e2=>by have:=HG2.out _ (Zb e);unfold One at e2;omega));have hq:Upd (fun i=>w.heap.size≤i) w6 w7:=hu7.mono (fun i _ e=>by unfold One at e;omega)))
    refine hK.out _ _ ?_ (fun hHeld=> ?_)
    ·(first|exact((HU.out.mono (fun _ _ e=>e.elim)).drew)|exact hHeld|exact hHeld.trans hq)
    clear hK K
    try simp only[Act.put,sT,sS,sZ]
    refine wpK 8 rfl ?_;refine wpR [9] ?_;refine wpC rfl (fun K hK=> ?_) AllReadyH.nil
    (first
   |(refine Zv rfl rfl (g:=w.heap.size+1) (i:=0) (v:= .slice A1 (ZG xs).length c1) rfl rfl HN5.out (by kernel_rfl) (by simp) rfl ?_;intro w6 hb6 hu6;have HN6:=Qh hb6;have HR6:=Qh (HR5.out.upd hu6 (by unfold One;omega));have HO16:=Qh (Za HO15.out hu6 (fun i e e2=>by have:=HG1.out _ (Zb e);unfold One at e2;omega));have HO26:=Qh (Za HO25.out hu6 (fun i e e2=>by have:=HG2.out _ (Zb e);unfold One at e2;omega));have hq:Upd (fun i=>w.heap.size≤i) w5 w6:=hu6.mono (fun i _ e=>by unfold One at e;omega))
   |(refine Zv rfl rfl (g:=w.heap.size+1) (i:=1) (v:= .slice A2 (ZG ys).length c2) rfl rfl HN6.out (by kernel_rfl) (by simp) rfl ?_;intro w7 hb7 hu7;have HN7:=Qh hb7;have HR7:=Qh (HR6.out.upd hu7 (by unfold One;omega));have HO17:=Qh (Za HO16.out hu7 (fun i e e2=>by have:=HG1.out _ (Zb e);unfold One at e2;omega));have HO27:=Qh (Za HO26.out hu7 (fun i e e2=>by have:=HG2.out _ (Zb e);unfold One at e2;omega));have hq:Upd (fun i=>w.heap.size≤i) w6 w7:=hu7.mono (fun i _ e=>by unfold One at e;omega)))
    refine hK.out _ _ ?_ (fun hHeld=> ?_)
    ·(first|exact((HU.out.mono (fun _ _ e=>e.elim)).drew)|exact hHeld|exact hHeld.trans hq)
    clear hK K
    try simp only[Act.put,sT,sS,sZ]
    refine wpD (NoPanic.normal ?_);have m0:=HN7.out.cell 0;have m1:=HN7.out.cell 1;have s0:=HR7.out.cell 0;have s1:=HR7.out.cell 1;have t0:=HR7.out.free 0;have t1:=HR7.out.free 1;simp only[List.set_cons_zero,List.set_cons_succ,Qz,Qs]at m0 m1 s0 s1;have HZ:=Qh hHeld;clear hHeld hq hb6 hb7 ho4 ho5 hu4 hu5 hu6 hu7 c0 c1' c41 HN4 HN5 HN6 HN7 HR4 HR5 HR6 HO14 HO24 HO15 HO25 HO16 HO26;go_wp2;have b9:=(HR7.out.set_ 0 (.slice A1 (ZG xs).length c1)).set_ 1 (.slice A2 (ZG ys).length c2);simp only[List.set_cons_zero,List.set_cons_succ]at b9;have US:=((Upd.refl (One w.heap.size) w7).setOne 0 (.slice A1 (ZG xs).length c1)).setOne 1 (.slice A2 (ZG ys).length c2);refine bodyPost_ret (results_cell_row (p:=2) rfl _ _ _ _ _ _ _ rfl b9 Tryz.underlying179 rfl (by kernel_rfl)) rfl ⟨A1,c1,A2,c2,by rw[←HEX.out,←HEY.out],?_,?_,?_⟩
    ·rw[←HEX.out];exact(Ints.of_owned (Za HO17.out US (fun i e e2=>by have:=HG1.out _ (Zb e);unfold One at e2;omega))).weak (fun i _ h=>by omega)
    ·rw[←HEY.out];exact(Ints.of_owned (Za HO27.out US (fun i e e2=>by have:=HG2.out _ (Zb e);unfold One at e2;omega))).weak (fun i _ h=>by omega)
    ·exact((Upd.refl No w).then_ (HZ.out.then_ US (fun i e=> .inr (by unfold One at e;omega))) (fun i e=> .inr e))
   refine wpC rfl (fun K hK=> ?_) AllReadyH.nil;go_simp;refine hK.out _ _ ?_ (fun hHeld=> ?_)
   ·(first|exact((HU.out.mono (fun _ _ e=>e.elim)).drew)|exact hHeld|exact hHeld.trans hq)
   clear hK K
   try simp only[Act.put,sT,sS,sZ]
   refine wpR [1] ?_;refine wpC rfl (fun K hK=> ?_) AllReadyH.nil;go_simp;refine hK.out _ _ ?_ (fun hHeld=> ?_)
   ·(first|exact((HU.out.mono (fun _ _ e=>e.elim)).drew)|exact hHeld|exact hHeld.trans hq)
   clear hK K
   try simp only[Act.put,sT,sS,sZ]
   refine wpR [2] ?_;refine wpC rfl (fun K hK=> ?_) AllReadyH.nil;go_simp
   (first
  |(go_at_call 183;refine(ZeX wr.drew _ A1 c1 xs HO1.out (by have:=HXL.out;omega)).mono ?_;rintro e w4 ⟨rfl,ho4,hu4⟩;have HN4:=Qh ((show Blk wr.drew _ _ _ from HN.out).upd hu4 (fun e=>by have:=HG1.out _ (Zb e);omega));have HR4:=Qh ((show Blk wr.drew _ _ _ from HR.out).upd hu4 (fun e=>by have:=HG1.out _ (Zb e);omega));have HO14:=Qh ho4;have HO24:=Qh (Za HO2.out hu4 (fun i e e2=>HD.out i (Zb e2) (Zb e)));have hq:Upd (fun i=>w.heap.size≤i) wr.drew w4:=hu4.mono (fun i _ e=>by have:=HG1.out _ (Zb e);omega);have c41:=HN4.out.cell 1;simp only[Qz,Qs]at c41))
   try (go_wp2_with fail)
   refine hK.out _ _ ?_ (fun hHeld=> ?_)
   ·(first|exact((HU.out.mono (fun _ _ e=>e.elim)).drew)|exact hHeld|exact hHeld.trans hq)
   clear hK K
   try simp only[Act.put,sT,sS,sZ]
   refine wpK 6 rfl ?_;refine wpR [5] ?_;refine wpC rfl (fun K hK=> ?_) AllReadyH.nil;go_simp
   (first
  |(go_at_call 183;refine(ZeX w4 _ A2 c2 ys HO24.out (by have:=HYL.out;omega)).mono ?_;rintro e w5 ⟨rfl,ho5,hu5⟩;have HN5:=Qh (HN4.out.upd hu5 (fun e=>by have:=HG2.out _ (Zb e);omega));have HR5:=Qh (HR4.out.upd hu5 (fun e=>by have:=HG2.out _ (Zb e);omega));have HO25:=Qh ho5;have HO15:=Qh (Za HO14.out hu5 (fun i e e2=>HD.out i (Zb e) (Zb e2)));have hq:Upd (fun i=>w.heap.size≤i) w4 w5:=hu5.mono (fun i _ e=>by have:=HG2.out _ (Zb e);omega)))
   try (go_wp2_with fail)
   refine hK.out _ _ ?_ (fun hHeld=> ?_)
   ·(first|exact((HU.out.mono (fun _ _ e=>e.elim)).drew)|exact hHeld|exact hHeld.trans hq)
   clear hK K
   try simp only[Act.put,sT,sS,sZ]
   refine wpR [7] ?_;refine wpC rfl (fun K hK=> ?_) AllReadyH.nil
   (first
  |(refine Zv rfl rfl (g:=w.heap.size+1) (i:=0) (v:= .slice A1 (ZG xs).length c1) rfl rfl HN5.out (by kernel_rfl) (by simp) rfl ?_;intro w6 hb6 hu6;have HN6:=Qh hb6;have HR6:=Qh (HR5.out.upd hu6 (by unfold One;omega));have HO16:=Qh (Za HO15.out hu6 (fun i e e2=>by have:=HG1.out _ (Zb e);unfold One at e2;omega));have HO26:=Qh (Za HO25.out hu6 (fun i e e2=>by have:=HG2.out _ (Zb e);unfold One at e2;omega));have hq:Upd (fun i=>w.heap.size≤i) w5 w6:=hu6.mono (fun i _ e=>by unfold One at e;omega))
  |(refine Zv rfl rfl (g:=w.heap.size+1) (i:=1) (v:= .slice A2 (ZG ys).length c2) rfl rfl HN6.out (by kernel_rfl) (by simp) rfl ?_;intro w7 hb7 hu7;have HN7:=Qh hb7;have HR7:=Qh (HR6.out.upd hu7 (by unfold One;omega));have HO17:=Qh (Za HO16.out hu7 (fun i e e2=>by have:=HG1.out _ (Zb e);unfold One at e2;omega));have HO27:=Qh (Za HO26.out hu7 (fun i e e2=>by have:=HG2.out _ (Zb e);unfold One at e2;omega));have hq:Upd (fun i=>w.heap.size≤i) w6 w7:=hu7.mono (fun i _ e=>by unfold One at e;omega)))
   refine hK.out _ _ ?_ (fun hHeld=> ?_)
   ·(first|exact((HU.out.mono (fun _ _ e=>e.elim)).drew)|exact hHeld|exact hHeld.trans hq)
   clear hK K
   try simp only[Act.put,sT,sS,sZ]
   refine wpK 8 rfl ?_;refine wpR [9] ?_;refine wpC rfl (fun K hK=> ?_) AllReadyH.nil
   (first
  |(refine Zv rfl rfl (g:=w.heap.size+1) (i:=0) (v:= .slice A1 (ZG xs).length c1) rfl rfl HN5.out (by kernel_rfl) (by simp) rfl ?_;intro w6 hb6 hu6;have HN6:=Qh hb6;have HR6:=Qh (HR5.out.upd hu6 (by unfold One;omega));have HO16:=Qh (Za HO15.out hu6 (fun i e e2=>by have:=HG1.out _ (Zb e);unfold One at e2;omega));have HO26:=Qh (Za HO25.out hu6 (fun i e e2=>by have:=HG2.out _ (Zb e);unfold One at e2;omega));have hq:Upd (fun i=>w.heap.size≤i) w5 w6:=hu6.mono (fun i _ e=>by unfold One at e;omega))
  |(refine Zv rfl rfl (g:=w.heap.size+1) (i:=1) (v:= .slice A2 (ZG ys).length c2) rfl rfl HN6.out (by kernel_rfl) (by simp) rfl ?_;intro w7 hb7 hu7;have HN7:=Qh hb7;have HR7:=Qh (HR6.out.upd hu7 (by unfold One;omega));have HO17:=Qh (Za HO16.out hu7 (fun i e e2=>by have:=HG1.out _ (Zb e);unfold One at e2;omega));have HO27:=Qh (Za HO26.out hu7 (fun i e e2=>by have:=HG2.out _ (Zb e);unfold One at e2;omega));have hq:Upd (fun i=>w.heap.size≤i) w6 w7:=hu7.mono (fun i _ e=>by unfold One at e;omega)))
   refine hK.out _ _ ?_ (fun hHeld=> ?_)
   ·(first|exact((HU.out.mono (fun _ _ e=>e.elim)).drew)|exact hHeld|exact hHeld.trans hq)
   clear hK K
   try simp only[Act.put,sT,sS,sZ]
   refine wpD (NoPanic.normal ?_);have m0:=HN7.out.cell 0;have m1:=HN7.out.cell 1;have s0:=HR7.out.cell 0;have s1:=HR7.out.cell 1;have t0:=HR7.out.free 0;have t1:=HR7.out.free 1;simp only[List.set_cons_zero,List.set_cons_succ,Qz,Qs]at m0 m1 s0 s1;have HZ:=Qh hHeld;clear hHeld hq hb6 hb7 ho4 ho5 hu4 hu5 hu6 hu7 c0 c1' c41 HN4 HN5 HN6 HN7 HR4 HR5 HR6 HO14 HO24 HO15 HO25 HO16 HO26;go_wp2;have b9:=(HR7.out.set_ 0 (.slice A1 (ZG xs).length c1)).set_ 1 (.slice A2 (ZG ys).length c2);simp only[List.set_cons_zero,List.set_cons_succ]at b9;have US:=((Upd.refl (One w.heap.size) w7).setOne 0 (.slice A1 (ZG xs).length c1)).setOne 1 (.slice A2 (ZG ys).length c2);refine bodyPost_ret (results_cell_row (p:=2) rfl _ _ _ _ _ _ _ rfl b9 Tryz.underlying179 rfl (by kernel_rfl)) rfl ⟨A1,c1,A2,c2,by rw[←HEX.out,←HEY.out],?_,?_,?_⟩
   ·rw[←HEX.out];exact(Ints.of_owned (Za HO17.out US (fun i e e2=>by have:=HG1.out _ (Zb e);unfold One at e2;omega))).weak (fun i _ h=>by omega)
   ·rw[←HEY.out];exact(Ints.of_owned (Za HO27.out US (fun i e e2=>by have:=HG2.out _ (Zb e);unfold One at e2;omega))).weak (fun i _ h=>by omega)
   ·exact((Upd.refl No w).then_ (HZ.out.then_ US (fun i e=> .inr (by unfold One at e;omega))) (fun i e=> .inr e))
end
/- Closed walks:the digraph of some edges. -/
section
open Go.RowKit
set_option maxRecDepth 100000 in
set_option maxHeartbeats 4000000 in
theorem ZsO (F F1 F2:Nat→Prop) (w:World) (A:Option Addr) (c:Nat) (l:List Edge) (hW:Walk F w A l) (A1 A2:Option Addr) (c1 c2:Nat) (ids keys:List Int) (hA:Ints F1 w A1 ids) (hB:Ints F2 w A2 keys)
  (hsi:ids.Pairwise (·<·)) (hsk:keys.Pairwise (·<·)) (hni:l≠[]→ids≠[]∧keys≠[]) (hl:l.length≤50000) (hl1:ids.length≤4096) (hl2:keys.length≤100000):
  Calls Tryz.prog 115 #[.slice A l.length c,.agg #[.slice A1 ids.length c1,.slice A2 keys.length c2]] w fun e w'=>∃G g K,e= .returned (.tuple #[.pointer (some ⟨g,0,none⟩),.int .i64 0])∧K≤50000∧DG w' G (some ⟨g,0,none⟩) ids.length K (Zb9 ids keys ids.length [] l)∧Upd No w w':=by
 obtain⟨wb,hwb⟩:∃wb,w.alloc (.cells #[.slice A1 ids.length c1,.slice A2 keys.length c2] 179)=wb:=⟨_,rfl⟩;have u0:Upd No w wb:=by rw[←hwb];exact(Upd.refl No w).alloc _
 have bN:Blk wb w.heap.size 179 [.slice A1 ids.length c1,.slice A2 keys.length c2]:=by rw[←hwb];exact Blk.new w _ _
 have n0:∀W,Upd No wb W→W.cell? ⟨w.heap.size,0,none⟩=some (.slice A1 ids.length c1):=fun W u=>by have:=(bN.upd u id).cell 0;simpa using this
 have n1:∀W,Upd No wb W→W.cell? ⟨w.heap.size,1,none⟩=some (.slice A2 keys.length c2):=fun W u=>by have:=(bN.upd u id).cell 1;simpa using this
 have d1:decide (4096<(ids.length:Int))=false:=decide_eq_false (by omega);have d2:decide (1048575<(keys.length:Int))=false:=decide_eq_false (by omega);have hroom:ZbQ (ids.length:Int)=ids.length:=by unfold ZbQ;omega
 have HNew:=Qh (hroom▸Zq0 wb (ids.length:Int));have HCa:=Qh (fun(W:World) (u:Upd No wb W) (e:Edge) (he:l≠[])=>Zug F1 F2 W A1 A2 c1 c2 ids keys (hA.upd (u0.trans u) (fun _ _=>id)) (hB.upd (u0.trans u) (fun _ _=>id)) hsi hsk (hni he).1 (hni he).2 (by omega) (by omega) e);have HW:=Qh (fun(W:World) (u:Upd No wb W)=>hW.upd (u0.trans u) (fun _ _=>id));have U0:=Qh u0;have hr:Upd No wb wb:=Upd.refl _ _;obtain⟨R,hR⟩:∃R,Zb9 ids keys ids.length [] l=R:=⟨_,rfl⟩;have HR:=Qh hR;rw[hR];clear hR hA hB hW bN u0 hsi hsk hni hroom
 go_enter Tryz.func115,Tryz.ntmps115
 go_wp2_with fail
 refine(HNew.out).mono ?_;rintro e w1 ⟨G0,g0,rfl,hdg,hu1,hG0⟩;have HDG:=Qh hdg;have HG0:=Qh hG0;have HU1:=Qh hu1;clear hdg hG0 hu1 hwb hr HNew;go_wp2
 go_loopg [25] l.length (fun gk i wr=>∃(k:Nat) (G:Nat→Prop) (q:List HArc),k+gk=l.length∧i= .int .i64 k∧Hid (Zb9 ids keys ids.length q (l.drop k)=R)∧Hid (DG wr G (some ⟨g0,0,none⟩) ids.length k q)∧Hid (∀j,G j→wb.heap.size≤j)∧Upd No wb wr)
 case atStart=>exact⟨0,G0,[],by omega,rfl,HR,HDG,HG0,HU1.out⟩
 case round=>
  obtain⟨k,G,q,hgk,rfl,hq,hD,hG,hu⟩:=hrel
  by_cases hlt:k<l.length
  ·obtain⟨ax,rfl,q0,q1,q2,q3⟩:=(HW.out wr hu).at_ hlt;obtain⟨x,hxx⟩:∃x,l[k]=x:=⟨_,rfl⟩;have hdr:=List.drop_eq_getElem_cons hlt;rw[hxx]at q0 q1 q2 q3 hdr;have HQ:=Qh (show Zb9 ids keys ids.length (ZbP ids.length q (toR ids keys x.arc)) (l.drop (k+1))=R by rw[←hq.out,hdr];rfl);have i1:(0:Int)≤(k:Int):=Qn _;have i2:(k:Int)<(l.length:Int):=by omega
   have hne:l≠[]:=fun e=>by rw[e]at hlt;simp at hlt
   obtain⟨wx,hwx⟩:∃wx,wr.alloc (.cells #[.int .i64 x.f,.int .i64 x.t,.int .i64 x.k,.int .i64 x.key] 26)=wx:=⟨_,rfl⟩;have ux:Upd No wr wx:=by rw[←hwx];exact(Upd.refl No wr).alloc _
   have bo:Blk wx wr.heap.size 26 [.int .i64 x.f,.int .i64 x.t,.int .i64 x.k,.int .i64 x.key]:=by rw[←hwx];exact Blk.new wr _ _
   have hux:=hu.trans ux;have g0':=bo.cell 0;have g1:=bo.cell 1;have g2:=bo.cell 2;have g3:=bo.cell 3;simp only[Qz,Qs]at g0' g1 g2 g3;have HC:=Qh (HCa.out wx hux x hne);have HDX:=Qh (fun(W:World) (u:Upd No wx W)=>Zq1 (hD.out.no (ux.trans u)) (by omega) (toR ids keys ⟨x.f,x.t,x.k,x.key⟩));have hZ:=hux.size;have HUX:=Qh hux;unfold Edge.cells at HC;clear hq hdr hxx ux bo
   go_wp2_with fail
   refine(HC.out).mono ?_;rintro e w2 ⟨rfl,hu2⟩
   go_wp2_with fail
   refine(HDX.out w2 hu2).mono ?_;rintro e w3 ⟨G3,rfl,hd3,hu3,hg3⟩;have HD3:=Qh hd3;have hz2:=hu2.size;have hG3:=Qh (show∀j,G3 j→wb.heap.size≤j from fun j h=>(hg3 j h).elim (hG.out j) (fun h=>by omega));have U3:Upd No wb w3:=(HUX.out.trans hu2).then_ hu3 (fun i e=> .inr (hG.out i e));clear hd3 hu3 hg3 hu2 HDX HC;go_wp2
   go_roundg (gk-1)
   case measure=>omega
   case rel=>exact⟨k+1,G3,_,by omega,by go_num,HQ,HD3,hG3,U3⟩
  ·obtain rfl:k=l.length:=by omega
   have hqR:q=R:=by have:=hq.out;rw[List.drop_length]at this;exact this
   have HqR:=Qh hqR;clear hqR hq;go_wp2
   go_ret2
   rw[←HqR.out];exact⟨G,g0,l.length,rfl,hl,hD.out,U0.out.trans hu⟩
end
end Go.Proofs.YtonblekdfinpkaaGreat
