/- Closed walks: the edge of an arc. -/
import Derived.BigRegion
import Derived.Test.YtklmahmfmbppkaaGreatMbn
import Derived.Test.YtklmahmfmbppkaaGreatMbo
namespace Go.Proofs.YtklmahmfmbppkaaGreat
set_option linter.unusedSimpArgs false
set_option linter.unusedVariables false
open Go.RowKit
def ZcB (ids keys:List Int) (a:HArc):Edge:=⟨ids.getD a.f.toNat 0,ids.getD a.t.toNat 0,a.kind,keys.getD a.label.toNat 0⟩
set_option maxRecDepth 100000 in
set_option maxHeartbeats 8000000 in
theorem Zru (F1 F2:Nat→Prop) (w:World) (A B:Option Addr) (ca cb:Nat) (ids keys:List Int) (hA:Ints F1 w A ids) (hB:Ints F2 w B keys) (a:HArc)
  (h1:0≤a.f) (h2:a.f<(ids.length:Int)) (h3:0≤a.t) (h4:a.t<(ids.length:Int)) (h5:0≤a.label) (h6:a.label<(keys.length:Int)):
  Calls Tryz.prog 67 #[.agg #[.slice A ids.length ca,.slice B keys.length cb],.agg a.cells.toArray] w fun e w'=>e= .returned (.agg (ZcB ids keys a).cells.toArray)∧Upd No w w':=by
 obtain⟨af,at',ak,al⟩:=a
 simp only at h1 h2 h3 h4 h5 h6
 obtain⟨f,rfl⟩:∃f:Nat,af=(f:Int):=⟨af.toNat,by omega⟩
 obtain⟨t,rfl⟩:∃t:Nat,at'=(t:Int):=⟨at'.toNat,by omega⟩
 obtain⟨lb,rfl⟩:∃t:Nat,al=(t:Int):=⟨al.toNat,by omega⟩
 have hf:f<ids.length:=by omega
 have ht:t<ids.length:=by omega
 have hlb:lb<keys.length:=by omega
 obtain⟨wb,hwb⟩:∃wb,((w.alloc (.cells #[.slice A ids.length ca,.slice B keys.length cb] 98)).alloc (.cells #[.int .i64 (f:Int),.int .i64 (t:Int),.int .i64 ak,.int .i64 (lb:Int)] 70)).alloc (.cells #[.int .i64 0,.int .i64 0,.int .i64 0,.int .i64 0] 61)=wb:=⟨_,rfl⟩
 have u0:Upd No w wb:=by rw[←hwb];exact(((Upd.refl No w).alloc _).alloc _).alloc _
 have bN:Blk wb w.heap.size 98 [.slice A ids.length ca,.slice B keys.length cb]:=by rw[←hwb];exact((Blk.new w _ _).alloc _).alloc _
 have bA:Blk wb (w.heap.size+1) 70 [.int .i64 (f:Int),.int .i64 (t:Int),.int .i64 ak,.int .i64 (lb:Int)]:=by
  rw[←hwb];have:=(Blk.new (w.alloc (.cells #[.slice A ids.length ca,.slice B keys.length cb] 98)) 70 [.int .i64 (f:Int),.int .i64 (t:Int),.int .i64 ak,.int .i64 (lb:Int)]).alloc (.cells #[.int .i64 0,.int .i64 0,.int .i64 0,.int .i64 0] 61);simpa only[World.size_alloc]using this
 have bE:Blk wb (w.heap.size+2) 61 [.int .i64 0,.int .i64 0,.int .i64 0,.int .i64 0]:=by
  rw[←hwb];have:=Blk.new ((w.alloc (.cells #[.slice A ids.length ca,.slice B keys.length cb] 98)).alloc (.cells #[.int .i64 (f:Int),.int .i64 (t:Int),.int .i64 ak,.int .i64 (lb:Int)] 70)) 61 [.int .i64 0,.int .i64 0,.int .i64 0,.int .i64 0];simpa only[World.size_alloc]using this
 obtain⟨aa,rfl,_,la,y1⟩:=hA.at_ hf
 obtain⟨aa',e',_,_,y2⟩:=hA.at_ ht
 cases e'
 obtain⟨ab,rfl,_,lb2,y3⟩:=hB.at_ hlb
 have e1:ids[f]=ids.getD f 0:=by simp[List.getD,hf]
 have e2:ids[t]=ids.getD t 0:=by simp[List.getD,ht]
 have e3:keys[lb]=keys.getD lb 0:=by simp[List.getD,hlb]
 rw[e1]at y1
 rw[e2]at y2
 rw[e3]at y3
 have r0:=bE.cell 0
 have r1:=bE.cell 1
 have r2:=bE.cell 2
 have r3:=bE.cell 3
 have f0:=bE.free 0
 have f1:=bE.free 1
 have f2:=bE.free 2
 have f3:=bE.free 3
 simp only[List.getElem?_cons_zero,List.getElem?_cons_succ]at r0 r1 r2 r3
 have nN:¬One (w.heap.size+2) w.heap.size:=by unfold One;omega
 have nA:¬One (w.heap.size+2) (w.heap.size+1):=by unfold One;omega
 have z1:∀W,Upd (One (w.heap.size+2)) wb W→W.cell? (aa.add f)=some (.int .i64 (ids.getD f 0)):=fun W u=>u.keep (u0.keepNo y1) (by rw[Ints.block_add];unfold One;omega)
 have z2:∀W,Upd (One (w.heap.size+2)) wb W→W.cell? (aa.add t)=some (.int .i64 (ids.getD t 0)):=fun W u=>u.keep (u0.keepNo y2) (by rw[Ints.block_add];unfold One;omega)
 have z3:∀W,Upd (One (w.heap.size+2)) wb W→W.cell? (ab.add lb)=some (.int .i64 (keys.getD lb 0)):=fun W u=>u.keep (u0.keepNo y3) (by rw[Ints.block_add];unfold One;omega)
 clear y1 y2 y3
 have c0:∀W,Upd (One (w.heap.size+2)) wb W→W.cell? ⟨w.heap.size,0,none⟩=some (.slice (some aa) ids.length ca):=fun W u=>by have:=(bN.upd u nN).cell 0;simpa using this
 have c1:∀W,Upd (One (w.heap.size+2)) wb W→W.cell? ⟨w.heap.size,1,none⟩=some (.slice (some ab) keys.length cb):=fun W u=>by have:=(bN.upd u nN).cell 1;simpa using this
 have g0:∀W,Upd (One (w.heap.size+2)) wb W→W.cell? ⟨w.heap.size+1,0,none⟩=some (.int .i64 (f:Int)):=fun W u=>by have:=(bA.upd u nA).cell 0;simpa using this
 have g1:∀W,Upd (One (w.heap.size+2)) wb W→W.cell? ⟨w.heap.size+1,1,none⟩=some (.int .i64 (t:Int)):=fun W u=>by have:=(bA.upd u nA).cell 1;simpa using this
 have g2:∀W,Upd (One (w.heap.size+2)) wb W→W.cell? ⟨w.heap.size+1,2,none⟩=some (.int .i64 ak):=fun W u=>by have:=(bA.upd u nA).cell 2;simpa using this
 have g3:∀W,Upd (One (w.heap.size+2)) wb W→W.cell? ⟨w.heap.size+1,3,none⟩=some (.int .i64 (lb:Int)):=fun W u=>by have:=(bA.upd u nA).cell 3;simpa using this
 have i1:(0:Int)≤(f:Int):=Int.natCast_nonneg _
 have i2:(0:Int)≤(t:Int):=Int.natCast_nonneg _
 have i3:(0:Int)≤(lb:Int):=Int.natCast_nonneg _
 have HV:ZcB ids keys ⟨f,t,ak,lb⟩=⟨ids.getD f 0,ids.getD t 0,ak,keys.getD lb 0⟩:=rfl
 rw[HV]
 generalize ids.getD f 0=vf at*
 generalize ids.getD t 0=vt at*
 generalize keys.getD lb 0=vl at*
 have U0:=Lib.hid u0
 have BE:=Lib.hid bE
 unfold HArc.cells Edge.cells
 simp only
 clear hA hB u0 bN bA bE e1 e2 e3 h1 h3 h5 HV hf ht hlb
 go_enter Tryz.func67,Tryz.ntmps67
 go_wp2_with fail
 clear hwb
 have HE:=Lib.hid BE.out
 clear r0 r1 r2 r3 f0 f1 f2 f3
 refine wp_region_noPanic ?_
 refine wp_region_held_drew (S:=(fun w'=>Upd (One (w.heap.size+2)) wb w')) (by kernel_rfl) ?_ (fun hHeld=> ?_)
 ·(first|exact(Upd.refl _ _).drew|exact hHeld.trans hq)
 refine wpK 0 rfl ?_
 refine wpK 1 rfl ?_
 refine wpK 2 rfl ?_
 refine wpK 3 rfl ?_
 refine wpK 4 rfl ?_
 refine wpK 5 rfl ?_
 refine wpK 6 rfl ?_
 refine wpK 7 rfl ?_
 refine wpK 8 rfl ?_
 refine wpK 9 rfl ?_
 refine wpK 10 rfl ?_
 refine wpK 11 rfl ?_
 refine wpK 12 rfl ?_
 refine wpK 13 rfl ?_
 refine wpK 14 rfl ?_
 refine wpK 15 rfl ?_
 refine wpK 16 rfl ?_
 refine wpK 17 rfl ?_
 refine wpK 18 rfl ?_
 refine wpK 19 rfl ?_
 refine wpK 20 rfl ?_
 refine wpR [21] ?_
 refine wpC rfl (fun K hK=> ?_) AllReadyH.nil
 (first
  |(refine Zb3 rfl rfl (g:=w.heap.size+2) (cells:=[.int .i64 vf,.int .i64 vt,.int .i64 ak,.int .i64 vl]) rfl rfl (show Blk _ _ 61 [.int .i64 0,.int .i64 0,.int .i64 0,.int .i64 0] from HE.out) (by kernel_rfl) rfl rfl ?_;intro w5 hb5 hu5;have HE:=Lib.hid hb5;have hq:Upd (One (w.heap.size+2)) _ _:=hu5;clear hb5 hu5))
 refine hK.out _ _ ?_ (fun hHeld=> ?_)
 ·(first|exact(Upd.refl _ _).drew|exact hHeld.trans hq)
 clear hK K
 try simp only[Act.put,sT,sS,sZ]
 refine wpD (NoPanic.normal ?_)
 go_wp2
 refine bodyPost_ret (results_cell_row (p:=4) rfl _ _ _ _ _ _ _ rfl HE.out Tryz.underlying61 rfl (by kernel_rfl)) rfl ⟨rfl,?_⟩
 exact U0.out.then_ hHeld fun k e=> .inr (by unfold One at e;omega)
end Go.Proofs.YtklmahmfmbppkaaGreat
/- Closed walks,plain:the document's answer,and that the search by ranks tells the same. -/
namespace Go.Proofs.YtklmahmfmbppkaaGreat
set_option linter.unusedSimpArgs false
set_option linter.unusedVariables false
open Go.RowKit
def ZfS:List Edge→List Edge→List Edge
 |acc,[]=>acc
 |acc,e::l=>ZfS (ZeG e acc) l
def ZeS:List Int→List Edge→List Int
 |acc,[]=>acc
 |acc,e::l=>ZeS (ZM e.t (ZM e.f acc)) l
def Zat (must:Int):Bool:=Zs must 1||(Zs must 2||Zs must 3)
def ZbD (l:List Edge) (mask:Int):List Edge:=ZfS [] (l.filter fun e=>Zs mask e.k)
def Zh9 (q:List Edge) (must:Int):Nat×Int:=Zdd (Zdy must (Zat must) q) (2*(ZeS [] q).length) (ZeS [] q) (0,0)
def ZcM (l:List Edge) (mask must:Int):List Edge:=
 if (Zh9 (ZbD l mask) must).1=0 then [] else Za1 must (ZbD l mask) (ZY must (ZbD l mask) (Zh9 (ZbD l mask) must).2) (Zh9 (ZbD l mask) must).1 (Zh9 (ZbD l mask) must).2 (Zat must)
theorem Zly {a b:Edge} (h:a.arc=b.arc):a=b:=by rw[←Ze1 a,←Ze1 b,h]
theorem ZkN {l m:List Edge} (h:l.map Edge.arc=m.map Edge.arc):l=m:=by
 have:=congrArg (List.map HArc.edge) h
 rw[List.map_map,List.map_map]at this
 have e:∀x:List Edge,x.map (HArc.edge ∘ Edge.arc)=x:=fun x=>by
  conv=>rhs;rw[←List.map_id x]
  exact List.map_congr_left fun _ _=>rfl
 rwa [e,e]at this
theorem ZeM {l:List Edge} {e:Edge}:e.arc∈l.map Edge.arc↔e∈l:=by
 rw[List.mem_map]
 exact⟨fun⟨x,hx,h⟩=>Zly h▸hx,fun h=>⟨e,h,rfl⟩⟩
theorem Znj (a b:Edge) (l:List Edge):b∈ZeG a l↔b=a∨b∈l:=by
 rw[←ZeM,Zfu,Za4,ZeM]
 exact⟨fun h=>h.imp Zly id,fun h=>h.imp (fun e=>by rw[e]) id⟩
theorem Zkm (a:Edge) (l:List Edge) (h:l.Pairwise fun a b=>ltE a b=true):(ZeG a l).Pairwise fun a b=>ltE a b=true:=by
 have h1:ZW (l.map Edge.arc):=List.pairwise_map.2 (h.imp fun {x y} e=>by rw[←ZeN];exact e)
 have h2:=ZcQ a.arc _ h1
 rw[←Zfu]at h2
 exact(List.pairwise_map.1 h2).imp fun {x y} e=>by rw[ZeN];exact e
theorem ZiG (b:Edge):∀(l acc:List Edge),b∈ZfS acc l↔b∈acc∨b∈l
 |[],acc=>by simp[ZfS]
 |e::l,acc=>by
  show b∈ZfS (ZeG e acc) l↔_
  rw[ZiG b l,Znj,List.mem_cons]
  constructor
  ·rintro((h|h)|h)
   ·exact .inr (.inl h)
   ·exact .inl h
   ·exact .inr (.inr h)
  ·rintro(h|h|h)
   ·exact .inl (.inr h)
   ·exact .inl (.inl h)
   ·exact .inr h
theorem Zfv:∀(l acc:List Edge),(acc.Pairwise fun a b=>ltE a b=true)→(ZfS acc l).Pairwise fun a b=>ltE a b=true
 |[],_,h=>h
 |e::l,acc,h=>Zfv l _ (Zkm e acc h)
theorem Zj0 (x:Int):∀(l:List Edge) (acc:List Int),x∈ZeS acc l↔x∈acc∨∃e∈l,x=e.f∨x=e.t
 |[],acc=>by simp[ZeS]
 |e::l,acc=>by
  show x∈ZeS (ZM e.t (ZM e.f acc)) l↔_
  rw[Zj0 x l,Zaw,Zaw]
  constructor
  ·rintro((h|h|h)|⟨y,hy,h⟩)
   ·exact .inr ⟨e,List.mem_cons_self,.inr h⟩
   ·exact .inr ⟨e,List.mem_cons_self,.inl h⟩
   ·exact .inl h
   ·exact .inr ⟨y,List.mem_cons_of_mem _ hy,h⟩
  ·rintro(h|⟨y,hy,h⟩)
   ·exact .inl (.inr (.inr h))
   ·rcases List.mem_cons.1 hy with rfl|hy
    ·rcases h with h|h
     ·exact .inl (.inr (.inl h))
     ·exact .inl (.inl h)
    ·exact .inr ⟨y,hy,h⟩
theorem Zh6:∀(l:List Edge) (acc:List Int),acc.Pairwise (·<·)→(ZeS acc l).Pairwise (·<·)
 |[],_,h=>h
 |e::l,acc,h=>Zh6 l _ (ZcG _ _ (ZcG _ _ h))
theorem mem_docQ {l:List Edge} {mask:Int} {e:Edge}:e∈ZbD l mask↔e∈l∧Zs mask e.k=true:=by
 unfold ZbD
 rw[ZiG,List.mem_filter]
 simp
theorem Zbl {mask k:Int} (h:Zs mask k=true):1≤k∧k≤3∧Zm mask k=true:=by
 unfold Zs at h
 rw[Bool.and_eq_true,Bool.and_eq_true,decide_eq_true_eq,decide_eq_true_eq]at h
 exact⟨h.1,h.2.1,h.2.2⟩
theorem Zj4 (l:List Edge):∃lo:Int,∀e∈l,lo≤e.f:=by
 induction l with
 |nil=>exact⟨0,fun e he=>by cases he⟩
 |cons a l ih=>
  obtain⟨lo,h⟩:=ih
  refine⟨min lo a.f,fun e he=> ?_⟩
  rcases List.mem_cons.1 he with rfl|he
  ·omega
  ·have:=h e he;omega
theorem Short.mem {D D':List HArc} {must:Int} {need:Bool} {v:Int} {c:List HArc} (h:Short D must need v c) (hD:∀a,a∈D↔a∈D'):Short D' must need v c:=
 h.less (fun a ha=>(hD a).2 ha) (fun a ha=>(hD a).1 (ZaP h.w a ha))
theorem NoWay.mem {D D':List HArc} {must:Int} {need:Bool} (h:NoWay D must need) (hD:∀a,a∈D'→a∈D):NoWay D' must need:=
 fun u c' n1 n2 n3=>h u c' n1 (Zdw hD (Int.le_refl _) n2) n3
section
variable {l:List Edge} {mask must:Int}
theorem ZiY (a:HArc):a∈(ZbD l mask).map Edge.arc↔a∈(l.filter fun e=>Zs mask e.k).map Edge.arc:=by
 rw[←Zpb a,ZeM,ZeM,mem_docQ,List.mem_filter]
theorem ZhE {v:Int} {c:List HArc} (h:Short ((l.filter fun e=>Zs mask e.k).map Edge.arc) must (Zat must) v c):(ZcM l mask must).map Edge.arc=c:=by
 have h2:=h.mem (fun a=>(ZiY (l:=l) (mask:=mask) a).symm)
 obtain⟨lo,hlo⟩:=Zj4 (ZbD l mask)
 have hk:∀e∈ZbD l mask,1≤e.k∧e.k≤3:=fun e he=>⟨(Zbl (mem_docQ.1 he).2).1,(Zbl (mem_docQ.1 he).2).2.1⟩
 have hF:=ZkJ (ids:=ZeS [] (ZbD l mask)) (l:=ZbD l mask) (most:=2*(ZeS [] (ZbD l mask)).length) (Zfv _ _ List.Pairwise.nil) hlo hk (Zh6 _ _ List.Pairwise.nil) (fun e he=>(Zj0 _ _ _).2 (.inr ⟨e,he,.inl rfl⟩)) (by omega) h2
 have hb:Zh9 (ZbD l mask) must=(c.length,v):=hF.1
 have hc:¬c.length=0:=fun e=>h.ne (List.eq_nil_of_length_eq_zero e)
 unfold ZcM
 rw[hb,if_neg hc]
 exact hF.2
theorem ZiX (h:NoWay ((l.filter fun e=>Zs mask e.k).map Edge.arc) must (Zat must)):ZcM l mask must=[]:=by
 have h2:=h.mem (fun a ha=>(ZiY (l:=l) (mask:=mask) a).1 ha)
 obtain⟨lo,hlo⟩:=Zj4 (ZbD l mask)
 have hk:∀e∈ZbD l mask,1≤e.k∧e.k≤3:=fun e he=>⟨(Zbl (mem_docQ.1 he).2).1,(Zbl (mem_docQ.1 he).2).2.1⟩
 have hb:(Zh9 (ZbD l mask) must).1=0:=ZlU hlo hk (Zh6 _ _ List.Pairwise.nil) _ h2
 unfold ZcM
 rw[if_pos hb]
end
def Ze (l:List Edge) (mask:Int):List Edge:=l.filter fun e=>Zs mask e.k
def ZbC:List Edge→List Int
 |[]=>[]
 |e::l=>e.f::e.t::ZbC l
theorem Zgo (x:Int):∀l:List Edge,x∈ZbC l↔∃e∈l,x=e.f∨x=e.t
 |[]=>by simp[ZbC]
 |e::l=>by
  show x∈e.f::e.t::ZbC l↔_
  rw[List.mem_cons,List.mem_cons,Zgo x l]
  constructor
  ·rintro(h|h|⟨y,hy,h⟩)
   ·exact⟨e,List.mem_cons_self,.inl h⟩
   ·exact⟨e,List.mem_cons_self,.inr h⟩
   ·exact⟨y,List.mem_cons_of_mem _ hy,h⟩
  ·rintro⟨y,hy,h⟩
   rcases List.mem_cons.1 hy with rfl|hy
   ·rcases h with h|h
    ·exact .inl h
    ·exact .inr (.inl h)
   ·exact .inr (.inr ⟨y,hy,h⟩)
theorem Zgv:∀l:List Edge,(ZbC l).length=2*l.length
 |[]=>rfl
 |e::l=>by
  show(ZbC l).length+1+1=_
  rw[Zgv l]
  simp only[List.length_cons]
  omega
def Zaq (D:List Edge):List Int:=ZA (ZbC D)
def ZaZ (D:List Edge):List Int:=ZA (D.map Edge.key)
def ZbZ (ids keys:List Int) (N:Nat):List HArc→List Edge→List HArc
 |q,[]=>q
 |q,e::l=>ZbZ ids keys N (ZbE N q (toR ids keys e.arc)) l
theorem ZiH {ids keys:List Int} {N:Nat} (b:HArc):∀(l:List Edge) (q:List HArc),(∀e∈l,Zi N (toR ids keys e.arc)=true)→(b∈ZbZ ids keys N q l↔b∈q∨∃e∈l,b=toR ids keys e.arc)
 |[],q,_=>by simp[ZbZ]
 |e::l,q,hr=>by
  have h1:b∈ZbE N q (toR ids keys e.arc)↔b=toR ids keys e.arc∨b∈q:=by
   unfold ZbE
   rw[if_pos (hr e List.mem_cons_self)]
   split
   ·rename_i hm
    exact⟨.inr,fun h=>h.elim (fun e=>by rw[e];exact hm) id⟩
   ·exact Za4 _ _ _
  show b∈ZbZ ids keys N (ZbE N q (toR ids keys e.arc)) l↔_
  rw[ZiH b l _ (fun x hx=>hr x (List.mem_cons_of_mem _ hx)),h1]
  constructor
  ·rintro((h|h)|⟨y,hy,h⟩)
   ·exact .inr ⟨e,List.mem_cons_self,h⟩
   ·exact .inl h
   ·exact .inr ⟨y,List.mem_cons_of_mem _ hy,h⟩
  ·rintro(h|⟨y,hy,h⟩)
   ·exact .inl (.inr h)
   ·rcases List.mem_cons.1 hy with rfl|hy
    ·exact .inl (.inl h)
    ·exact .inr ⟨y,hy,h⟩
section
variable {D:List Edge}
theorem Zgw {e:Edge} (he:e∈D):e.f∈Zaq D∧e.t∈Zaq D:=⟨(Zdx _ _).2 ((Zgo _ _).2 ⟨e,he,.inl rfl⟩),(Zdx _ _).2 ((Zgo _ _).2 ⟨e,he,.inr rfl⟩)⟩
theorem Zfp {e:Edge} (he:e∈D):e.key∈ZaZ D:=(Zdx _ _).2 (List.mem_map.2 ⟨e,he,rfl⟩)
theorem Zfd (hk:∀e∈D,1≤e.k∧e.k≤3) (hl:D.length≤100000) {e:Edge} (he:e∈D):Zi (Zaq D).length (toR (Zaq D) (ZaZ D) e.arc)=true:=by
 rw[ZF]
 have h1:=Zgw he
 have h2:=Zfp he
 have f1:=Zc9 (Zaq D) e.f
 have f2:=Zc9 (Zaq D) e.t
 have f3:=Zc9 (ZaZ D) e.key
 have g1:=(ZbM (ZbS (ZbC D)) h1.1).1
 have g2:=(ZbM (ZbS (ZbC D)) h1.2).1
 have g3:=(ZbM (ZbS (D.map Edge.key)) h2).1
 have k:=hk e he
 have hkl:(ZaZ D).length≤D.length:=by
  have:=ZeB (D.map Edge.key)
  rwa [List.length_map]at this
 exact⟨f1.1,g1,f2.1,g2,k.1,k.2,f3.1,by
  have g3':rk (ZaZ D) e.key<((ZaZ D).length:Int):=g3
  show rk (ZaZ D) e.key≤1048575
  omega⟩
theorem Zpu (hk:∀e∈D,1≤e.k∧e.k≤3) (hl:D.length≤100000):Rk (D.map Edge.arc) (Zaq D) (ZaZ D) (ZbZ (Zaq D) (ZaZ D) (Zaq D).length [] D):=by
 refine⟨ZbS _,ZbS _,fun a ha=> ?_,fun a ha=> ?_,fun b=> ?_⟩
 ·obtain⟨e,he,rfl⟩:=List.mem_map.1 ha
  exact Zgw he
 ·obtain⟨e,he,rfl⟩:=List.mem_map.1 ha
  exact Zfp he
 ·rw[ZiH b D [] (fun e he=>Zfd hk hl he)]
  constructor
  ·rintro(h|⟨e,he,h⟩)
   ·cases h
   ·exact⟨e.arc,List.mem_map.2 ⟨e,he,rfl⟩,h⟩
  ·rintro⟨a,ha,h⟩
   obtain⟨e,he,rfl⟩:=List.mem_map.1 ha
   exact .inr ⟨e,he,h⟩
end
theorem ZfE (x:Int) (j:Nat) (hj:j=1∨j=2∨j=3):Zm (bits .and .i64 x 14) (j:Int)=Zm x (j:Int):=by
 rw[ZgH x 14 j hj]
 have:Zm 14 (j:Int)=true:=by rcases hj with rfl|rfl|rfl<;>rfl
 rw[this,Bool.and_true]
theorem ZnT (x k:Int):Zs (bits .and .i64 x 14) k=Zs x k:=by
 unfold Zs
 by_cases h1:1≤k
 ·by_cases h2:k≤3
  ·obtain⟨j,rfl,hj⟩:=Zcf h1 h2
   rw[ZfE x j hj]
  ·rw[decide_eq_false h2]
   simp
 ·rw[decide_eq_false h1]
  simp
theorem ZrB (mask:Int) (e:Edge):ZaF (bits .and .i64 mask 14) e= !Zs mask e.k:=by
 rw[←ZnT mask e.k]
 unfold ZaF Zs
 by_cases h1:e.k<1
 ·rw[decide_eq_true h1,decide_eq_false (show¬1≤e.k by omega)]
  rfl
 ·rw[decide_eq_false h1,decide_eq_true (show 1≤e.k by omega)]
  by_cases h2:3<e.k
  ·rw[decide_eq_true h2,decide_eq_false (show¬e.k≤3 by omega)]
   rfl
  ·rw[decide_eq_false h2,decide_eq_true (show e.k≤3 by omega)]
   simp
theorem Zpn (x:Int) (y:Nat) (hy:y≤1000):bits .and .i64 x (y:Int)=(((x%18446744073709551616).toNat &&& y:Nat):Int):=by
 change IntKind.i64.wrap (((BitVec.ofInt 64 x &&& BitVec.ofInt 64 (y:Int)).toNat:Nat):Int)=_
 have h1:(BitVec.ofInt 64 x).toNat=(x%18446744073709551616).toNat:=by rw[BitVec.toNat_ofInt];rfl
 have h2:(BitVec.ofInt 64 (y:Int)).toNat=y:=by rw[BitVec.toNat_ofInt];omega
 rw[BitVec.toNat_and,h1,h2]
 have h3:(x%18446744073709551616).toNat &&& y≤y:=Nat.and_le_right
 exact IntWalk.i64_in _ (by omega)
theorem Znc (must:Int):(bits .and .i64 must 14 != 0)=Zat must:=by
 have h1:=ZfE must 1 (.inl rfl)
 have h2:=ZfE must 2 (.inr (.inl rfl))
 have h3:=ZfE must 3 (.inr (.inr rfl))
 have hn:Zat must=(Zm must ((1:Nat):Int)||(Zm must ((2:Nat):Int)||Zm must ((3:Nat):Int))):=rfl
 rw[hn,←h1,←h2,←h3]
 have h:=Zpn must 14 (by decide)
 have h':bits .and .i64 must 14=((((must%18446744073709551616).toNat &&& 14:Nat)):Int):=h
 rw[h']
 generalize (must%18446744073709551616).toNat=n
 have e1:∀j:Nat,Zm (((n &&& 14:Nat)):Int) (j:Int)=(n &&& 14).testBit j:=by
  intro j
  unfold Zm
  rw[Nat.testBit_eq_decide_div_mod_eq,decide_eq_decide]
  rw[show((j:Int).toNat)=j from Int.toNat_natCast j]
  have:(((n &&& 14:Nat):Int)/2 ^ j)%2=(((n &&& 14)/2 ^ j%2:Nat):Int):=by
   norm_cast
  rw[this]
  omega
 rw[e1,e1,e1]
 by_cases hz:n &&& 14=0
 ·rw[hz]
  rfl
 ·have hb:((((n &&& 14:Nat)):Int) != 0)=true:=by rw[bne_iff_ne];omega
  rw[hb]
  refine Eq.symm ?_
  refine Classical.byContradiction fun hc=>hz ?_
  have hc:((n &&& 14).testBit 1||((n &&& 14).testBit 2||(n &&& 14).testBit 3))=false:=by simpa using hc
  rw[Bool.or_eq_false_iff,Bool.or_eq_false_iff]at hc
  refine Nat.eq_of_testBit_eq fun i=> ?_
  rw[Nat.zero_testBit,Nat.testBit_and]
  by_cases hi:i=1∨i=2∨i=3
  ·rw[←Nat.testBit_and]
   rcases hi with rfl|rfl|rfl
   ·exact hc.1
   ·exact hc.2.1
   ·exact hc.2.2
  ·have:Nat.testBit 14 i=false:=by
    match i,hi with
    |0,_=>rfl
    |1,h=>exact absurd (.inl rfl) h
    |2,h=>exact absurd (.inr (.inl rfl)) h
    |3,h=>exact absurd (.inr (.inr rfl)) h
    |i+4,_=>
     refine Nat.testBit_lt_two_pow ?_
     have:2 ^ (i+4)=2 ^ i*16:=by rw[Nat.pow_add]
     have:=Nat.two_pow_pos i
     omega
   rw[this,Bool.and_false]
theorem ZpT {l:List Edge} {mask must:Int} (hl:l.length≤100000) {q:List HArc} (ids keys:List Int) (hids:ids=Zaq (Ze l mask)) (hkeys:keys=ZaZ (Ze l mask)) (hq:q=ZbZ ids keys ids.length [] (Ze l mask)) (hs:ZW q) (ks:Int→Int) (ws:Int→List HArc)
  (hk:∀i:Int,0≤i→i<(ids.length:Int)→ks i=Z1 (ofA (bits .and .i64 mask 14) q) (bits .and .i64 must 14) i (ZU ids.length q (bits .and .i64 mask 14) i) (Zp ids.length q (bits .and .i64 mask 14) (bits .and .i64 must 14) i) (Zat must))
  (hk2:∀i:Int,0≤i→(ids.length:Int)≤i→ks i=0) (hk3:∀i:Int,i<0→ks i=0)
  (hw:∀i:Int,0≤i→i<(ids.length:Int)→ws i=ZC (ofA (bits .and .i64 mask 14) q) (bits .and .i64 must 14) i (ZU ids.length q (bits .and .i64 mask 14) i) (Zp ids.length q (bits .and .i64 mask 14) (bits .and .i64 must 14) i) (ks i).toNat i (Zat must)):
  ZcM l mask must=(ZH ks ws ids.length).map (ZcB ids keys)∧∀a∈ZH ks ws ids.length,Zi ids.length a=true∧a.label<(keys.length:Int):=by
 have hkD:∀e∈Ze l mask,1≤e.k∧e.k≤3:=fun e he=>by
  have:=Zbl (List.mem_filter.1 he).2
  exact⟨this.1,this.2.1⟩
 have hlD:(Ze l mask).length≤100000:=Nat.le_trans (List.length_filter_le _ _) hl
 have hR:=Zpu hkD hlD
 rw[←hids,←hkeys,←hq]at hR
 have hr:∀a∈q,Zi ids.length a=true:=fun a ha=>by
  obtain⟨b,hb,rfl⟩:=(hR.mq a).1 ha
  obtain⟨e,he,rfl⟩:=List.mem_map.1 hb
  rw[hids,hkeys]
  exact Zfd hkD hlD he
 have hlab:∀a∈q,a.label<(keys.length:Int):=fun a ha=>by
  obtain⟨b,hb,rfl⟩:=(hR.mq a).1 ha
  exact(ZbM hR.sk (hR.ml b hb)).1
 have hof:ofA (bits .and .i64 mask 14) q=q:=by
  unfold ofA
  rw[List.filter_eq_self]
  intro a ha
  obtain⟨b,hb,rfl⟩:=(hR.mq a).1 ha
  obtain⟨e,he,rfl⟩:=List.mem_map.1 hb
  have h1:=(List.mem_filter.1 he).2
  rw[←ZnT]at h1
  exact(Zbl h1).2.2
 have hmust:∀a∈(Ze l mask).map Edge.arc,isM (bits .and .i64 must 14) a=isM must a:=fun a ha=>by
  obtain⟨e,he,rfl⟩:=List.mem_map.1 ha
  obtain⟨j,hj,hj2⟩:=Zcf (hkD e he).1 (hkD e he).2
  show Zm _ e.k=Zm _ e.k
  rw[hj,ZfE must j hj2]
 have hmap:∀c:List HArc,(c.map (unR ids keys))=(c.map (ZcB ids keys)).map Edge.arc:=fun c=>by
  rw[List.map_map]
  exact List.map_congr_left fun _ _=>rfl
 rcases ZhL hr hs (bits .and .i64 mask 14) (bits .and .i64 must 14) (Zat must) ks ws hk hk2 hk3 hw with ⟨e,h⟩|⟨v,h0,h1,h⟩
 ·rw[hof]at h
  rw[e]
  exact⟨ZiX ((hR.none h).must hmust),fun a ha=>by cases ha⟩
 ·rw[hof]at h
  refine⟨?_,fun a ha=>⟨hr a (ZaP h.w a ha),hlab a (ZaP h.w a ha)⟩⟩
  have h2:=ZhE ((hR.short h0 h1 h).must hmust)
  rw[hmap]at h2
  exact ZkN h2
theorem Zlu (l:List Edge) (mask must:Int) (hl:l.length≤100000):(ZcM l mask must=[]∧NoWay ((Ze l mask).map Edge.arc) must (Zat must))∨∃v,Short ((Ze l mask).map Edge.arc) must (Zat must) v ((ZcM l mask must).map Edge.arc):=by
 have hkD:∀e∈Ze l mask,1≤e.k∧e.k≤3:=fun e he=>by
  have:=Zbl (List.mem_filter.1 he).2
  exact⟨this.1,this.2.1⟩
 have hlD:(Ze l mask).length≤100000:=Nat.le_trans (List.length_filter_le _ _) hl
 have hR:=Zpu hkD hlD
 obtain⟨q,hq⟩:∃q,(ZbZ (Zaq (Ze l mask)) (ZaZ (Ze l mask)) (Zaq (Ze l mask)).length [] (Ze l mask))=q:=⟨_,rfl⟩
 rw[hq]at hR
 have hs:ZW q:=by
  rw[←hq]
  have:∀(m:List Edge) (q:List HArc),ZW q→ZW (ZbZ (Zaq (Ze l mask)) (ZaZ (Ze l mask)) (Zaq (Ze l mask)).length q m):=by
   intro m
   induction m with
   |nil=>exact fun q h=>h
   |cons e m ih=>
    intro q h
    refine ih _ ?_
    unfold ZbE
    split
    ·split
     ·exact h
     ·exact ZcQ _ _ h
    ·exact h
  exact this _ _ List.Pairwise.nil
 have hr:∀a∈q,Zi (Zaq (Ze l mask)).length a=true:=fun a ha=>by
  obtain⟨b,hb,rfl⟩:=(hR.mq a).1 ha
  obtain⟨e,he,rfl⟩:=List.mem_map.1 hb
  exact Zfd hkD hlD he
 have hof:ofA 14 q=q:=by
  unfold ofA
  rw[List.filter_eq_self]
  intro a ha
  obtain⟨b,hb,rfl⟩:=(hR.mq a).1 ha
  obtain⟨e,he,rfl⟩:=List.mem_map.1 hb
  obtain⟨j,hj,hj2⟩:=Zcf (hkD e he).1 (hkD e he).2
  show Zm 14 e.k=true
  rw[hj]
  rcases hj2 with rfl|rfl|rfl<;>rfl
 have hb:=ZhL hr hs 14 must (Zat must) (fun i=>if 0≤i∧i<((Zaq (Ze l mask)).length:Int) then Z1 (ofA 14 q) must i (ZU (Zaq (Ze l mask)).length q 14 i) (Zp (Zaq (Ze l mask)).length q 14 must i) (Zat must) else 0)
  (fun i=>ZC (ofA 14 q) must i (ZU (Zaq (Ze l mask)).length q 14 i) (Zp (Zaq (Ze l mask)).length q 14 must i) (if 0≤i∧i<((Zaq (Ze l mask)).length:Int) then Z1 (ofA 14 q) must i (ZU (Zaq (Ze l mask)).length q 14 i) (Zp (Zaq (Ze l mask)).length q 14 must i) (Zat must) else 0).toNat i (Zat must))
  (fun i h0 h1=>if_pos ⟨h0,h1⟩) (fun i _ h1=>if_neg (fun e=>by omega)) (fun i h1=>if_neg (fun e=>by omega)) (fun i _ _=>rfl)
 rw[hof]at hb
 rcases hb with ⟨_,h⟩|⟨v,h0,h1,h⟩
 ·have h3:=hR.none h
  exact .inl ⟨ZiX h3,h3⟩
 ·have h3:=hR.short h0 h1 h
  rw[←ZhE h3]at h3
  exact .inr ⟨_,h3⟩
end Go.Proofs.YtklmahmfmbppkaaGreat
/- Phenomena,plain:what phen.Round computes is what the document says. -/
namespace Go.Proofs.YtklmahmfmbppkaaGreat
set_option linter.unusedSimpArgs false
set_option linter.unusedVariables false
def Zpm (q:List HArc) (must:Int) (ac:List HArc):Bool:=ac.any fun a=>decide (Zbq q a.f.toNat=Zbq q a.t.toNat)&&((bits .and .i64 must 14==0)||Zs must a.kind)
def Zbr (l:List Edge) (mask:Int):List Int:=(Zc2 [] [] (Ze l mask)).1
def Zd1 (l:List Edge) (mask:Int):List HArc:=(Zc2 [] [] (Ze l mask)).2
def Zcg (l:List Edge) (mask:Int):List HArc:=ofA 14 (Zdg (Zbr l mask).length [] (Zd1 l mask))
def ZjC (l:List Edge) (mask must:Int):Bool:=Zpm (Zcg l mask) must (Zd1 l mask)
theorem Zel (l:List Edge) (mask:Int):NumOk (Zbr l mask) (Zd1 l mask) (Ze l mask):=by
 have:=Zk9 (Ze l mask) [] [] [] ⟨List.nodup_nil,rfl,fun e h=>absurd h List.not_mem_nil,Nat.le_refl _⟩
 exact this
theorem Zmo {ids:List Int} {e:Edge} (hf:e.f∈ids) (ht:e.t∈ids) (h1:1≤e.k) (h2:e.k≤3):Zi ids.length (Zbh ids e)=true:=by
 have a1:=ZcH hf
 have a2:=ZcH ht
 unfold Zi ZJ Zbh
 simp only[Bool.and_eq_true,decide_eq_true_eq]
 refine⟨⟨by omega,by omega⟩,⟨by omega,by omega⟩,h1,h2,by omega,by omega⟩
theorem Zrz {k:Int} (h1:1≤k) (h2:k≤3):Zm 14 k=true:=by
 rcases(show k=1∨k=2∨k=3 by omega)with rfl|rfl|rfl<;>kernel_rfl
theorem ZdY {l:List Edge} {mask:Int} {e:Edge} (h:e∈Ze l mask):1≤e.k∧e.k≤3:=by
 unfold Ze at h
 have:=Zbl (List.mem_filter.1 h).2
 exact⟨this.1,this.2.1⟩
theorem Zko (l:List Edge) (mask:Int):ZhP (Zbr l mask) (Ze l mask) (Zcg l mask):=by
 intro a
 have hn:=Zel l mask
 unfold Zcg
 rw[mem_ofA,ZiF,hn.arcs]
 constructor
 ·rintro⟨h|⟨h,_⟩,_⟩
  ·cases h
  ·obtain⟨e,he,h2⟩:=List.mem_map.1 h
   exact⟨e,he,h2⟩
 ·rintro⟨e,he,rfl⟩
  have hk:=ZdY he
  have hh:=hn.has e he
  exact⟨Or.inr ⟨List.mem_map.2 ⟨e,he,rfl⟩,Zmo hh.1 hh.2 hk.1 hk.2⟩,Zrz hk.1 hk.2⟩
theorem Zpe (l:List Edge) (mask:Int):ZbI (Zbr l mask).length (Zcg l mask):=by
 intro a ha
 obtain⟨e,he,rfl⟩:=(Zko l mask a).1 ha
 have hh:=(Zel l mask).has e he
 have a1:=ZcH hh.1
 have a2:=ZcH hh.2
 unfold Zbh
 refine⟨?_,?_,?_,?_⟩<;>simp only<;>omega
theorem Zqo (l:List Edge) (mask:Int):(Zbr l mask).length≤2*l.length:=by
 have:=(Zel l mask).len
 have h2:(Ze l mask).length≤l.length:=by unfold Ze;exact List.length_filter_le _ _
 omega
theorem Zpl (l:List Edge) (mask:Int):(Zd1 l mask).length≤l.length:=by
 rw[(Zel l mask).arcs,List.length_map]
 unfold Ze
 exact List.length_filter_le _ _
theorem ZmQ (l:List Edge) (mask must:Int):ZjC l mask must=Zaj l mask must:=by
 have hn:=Zel l mask
 have key:∀e∈Ze l mask,decide (Zbq (Zcg l mask) (Zbh (Zbr l mask) e).f.toNat=Zbq (Zcg l mask) (Zbh (Zbr l mask) e).t.toNat)=decide (e.f∈Zdu (Ze l mask) e.t):=by
  intro e he
  have h1:=ZoU hn (Zpe l mask) (Zko l mask) he
  rw[←mem_reachE]at h1
  have e1:(Zbh (Zbr l mask) e).f.toNat=Zo (Zbr l mask) e.f:=by unfold Zbh;simp
  have e2:(Zbh (Zbr l mask) e).t.toNat=Zo (Zbr l mask) e.t:=by unfold Zbh;simp
  rw[e1,e2]
  exact decide_eq_decide.2 h1
 unfold ZjC Zpm Zaj
 rw[hn.arcs,List.any_map]
 show(Ze l mask).any _=_
 rw[Bool.eq_iff_iff,List.any_eq_true]
 show _↔(if (bits .and .i64 must 14==0)=true then Ze l mask else (Ze l mask).filter fun e=>Zs must e.k).any (fun e=>decide (e.f∈Zdu (Ze l mask) e.t))=true
 by_cases hm:(bits .and .i64 must 14==0)=true
 ·rw[if_pos hm,List.any_eq_true]
  constructor
  ·rintro⟨e,he,h⟩
   refine⟨e,he,?_⟩
   rw[←key e he]
   exact(Bool.and_eq_true _ _▸h).1
  ·rintro⟨e,he,h⟩
   refine⟨e,he,?_⟩
   rw[←key e he]at h
   show(_&&_)=true
   rw[Bool.and_eq_true]
   exact⟨h,by rw[hm];rfl⟩
 ·rw[if_neg hm,List.any_eq_true]
  constructor
  ·rintro⟨e,he,h⟩
   have h':(decide (Zbq (Zcg l mask) (Zbh (Zbr l mask) e).f.toNat=Zbq (Zcg l mask) (Zbh (Zbr l mask) e).t.toNat)&&((bits .and .i64 must 14==0)||Zs must e.k))=true:=h
   rw[Bool.and_eq_true,Bool.or_eq_true]at h'
   refine⟨e,List.mem_filter.2 ⟨he,h'.2.resolve_left hm⟩,?_⟩
   rw[←key e he]
   exact h'.1
  ·rintro⟨e,he,h⟩
   obtain⟨he1,he2⟩:=List.mem_filter.1 he
   refine⟨e,he1,?_⟩
   rw[←key e he1]at h
   show(decide (Zbq (Zcg l mask) (Zbh (Zbr l mask) e).f.toNat=Zbq (Zcg l mask) (Zbh (Zbr l mask) e).t.toNat)&&((bits .and .i64 must 14==0)||Zs must e.k))=true
   rw[Bool.and_eq_true,Bool.or_eq_true]
   exact⟨h,Or.inr he2⟩
end Go.Proofs.YtklmahmfmbppkaaGreat
/- Phenomena,plain:there is a closed walk just if the first of the shortest is one. -/
namespace Go.Proofs.YtklmahmfmbppkaaGreat
set_option linter.unusedSimpArgs false
set_option linter.unusedVariables false
theorem ZhW {D:List Edge} {lo:Int}:∀{c:List HArc} {x y:Int},okW (D.map Edge.arc) lo x c y→RchE D x y
 |[],x,y,h=>by
  have:x=y:=h
  subst this;exact RchE.refl x
 |a::c,x,y,h=>by
  obtain⟨h1,h2,_,h4⟩:=h
  obtain⟨e,he,rfl⟩:=List.mem_map.1 h1
  exact RchE.trans ((RchE.refl x).step he h2) (ZhW h4)
theorem ZhX {p:List HArc} {lo:Int} {a:HArc}:∀{c1 c2:List HArc} {x y:Int},okW p lo x (c1++a::c2) y→okW p lo x c1 a.f∧okW p lo a.t c2 y
 |[],c2,x,y,h=>by
  obtain⟨h1,h2,h3,h4⟩:=h
  exact⟨h2.symm,h4⟩
 |b::c1,c2,x,y,h=>by
  obtain⟨h1,h2,h3,h4⟩:=h
  obtain⟨h5,h6⟩:=ZhX h4
  exact⟨⟨h1,h2,h3,h5⟩,h6⟩
theorem Zp8 {D:List Edge} {lo:Int} (hlo:∀e∈D,lo≤e.f) {x y:Int} (h:RchE D x y):∃c,okW (D.map Edge.arc) lo x c y:=by
 induction h with
 |refl=>exact⟨[],rfl⟩
 |step h1 h2 h3 ih=>
  rename_i b e
  obtain⟨c,hc⟩:=ih
  exact⟨c++[e.arc],ZbX hc ⟨List.mem_map.2 ⟨e,h2,rfl⟩,h3,by rw[←h3];exact hlo e h2,rfl⟩⟩
theorem Zk7 {p:List HArc} {lo u:Int}:∀{c:List HArc} {x y:Int},okW p lo x c y→(∀a∈c,u≤a.f)→okW p u x c y
 |[],_,_,h,_=>h
 |a::c,x,y,h,hu=>by
  obtain⟨h1,h2,_,h4⟩:=h
  exact⟨h1,h2,by rw[←h2];exact hu a (List.mem_cons_self ..),Zk7 h4 fun b hb=>hu b (List.mem_cons_of_mem _ hb)⟩
theorem Zml {p:List HArc} {lo v:Int} {c:List HArc} (hne:c≠[]) (h:okW p lo v c v):∃u c',c'≠[]∧okW p u u c' u∧∀a,a∈c'↔a∈c:=by
 obtain⟨a,ha,hmin⟩:=ZdW hne
 obtain⟨c1,c2,rfl⟩:=List.append_of_mem ha
 obtain⟨h1,h2⟩:=ZhX h
 have ham:a∈p:=ZaP h a (by simp)
 have h3:okW p lo a.t (c2++c1) a.f:=ZbX h2 h1
 have h4:=Zk7 (u:=a.f) h3 fun b hb=>hmin b (by
  rcases List.mem_append.1 hb with hb|hb
  ·exact List.mem_append_right _ (List.mem_cons_of_mem _ hb)
  ·exact List.mem_append_left _ hb)
 refine⟨a.f,a::(c2++c1),by simp,⟨ham,rfl,Int.le_refl _,h4⟩,fun b=> ?_⟩
 simp only[List.mem_cons,List.mem_append]
 constructor
 ·rintro(h|h|h)
  ·exact Or.inr (Or.inl h)
  ·exact Or.inr (Or.inr h)
  ·exact Or.inl h
 ·rintro(h|h|h)
  ·exact Or.inr (Or.inr h)
  ·exact Or.inl h
  ·exact Or.inr (Or.inl h)
theorem Zka {l:List Edge} {mask must:Int} {e:Edge} (h:e∈Ze l mask):Zs must e.k=isM must e.arc:=ZdI (ZdY h).1 (ZdY h).2
theorem ZmP (l:List Edge) (mask must:Int) (hl:l.length≤100000):Zaj l mask must=true↔ZcM l mask must≠[]:=by
 have hneed:=Znc must
 have hre:Zaj l mask must=true↔∃e∈Ze l mask,(Zat must=true→isM must e.arc=true)∧RchE (Ze l mask) e.t e.f:=by
  show(if (bits .and .i64 must 14==0)=true then Ze l mask else (Ze l mask).filter fun e=>Zs must e.k).any (fun e=>decide (e.f∈Zdu (Ze l mask) e.t))=true↔_
  by_cases hm:(bits .and .i64 must 14==0)=true
  ·have hn:Zat must=false:=by rw[←hneed,bne,hm];rfl
   rw[if_pos hm,List.any_eq_true]
   constructor
   ·rintro⟨e,he,h⟩
    exact⟨e,he,fun h2=>absurd (hn.symm.trans h2) (by decide),mem_reachE.1 (of_decide_eq_true h)⟩
   ·rintro⟨e,he,_,h⟩
    exact⟨e,he,decide_eq_true (mem_reachE.2 h)⟩
  ·have hn:Zat must=true:=by rw[←hneed,bne];simpa using hm
   rw[if_neg hm,List.any_eq_true]
   constructor
   ·rintro⟨e,he,h⟩
    obtain⟨he1,he2⟩:=List.mem_filter.1 he
    exact⟨e,he1,fun _=>by rw[←Zka he1];exact he2,mem_reachE.1 (of_decide_eq_true h)⟩
   ·rintro⟨e,he,h1,h2⟩
    exact⟨e,List.mem_filter.2 ⟨he,by rw[Zka he];exact h1 hn⟩,decide_eq_true (mem_reachE.2 h2)⟩
 rw[hre]
 constructor
 ·rintro⟨e,he,hm,hr⟩ hd
  rcases Zlu l mask must hl with ⟨_,hno⟩|⟨v,hs⟩
  ·obtain⟨lo,hlo⟩:=Zj4 (Ze l mask)
   obtain⟨c,hc⟩:=Zp8 hlo hr
   have h2:okW ((Ze l mask).map Edge.arc) lo e.f (e.arc::c) e.f:=⟨List.mem_map.2 ⟨e,he,rfl⟩,rfl,hlo e he,hc⟩
   obtain⟨u,c',h3,h4,h5⟩:=Zml (by simp) h2
   refine hno u c' h3 h4 fun hn=> ?_
   unfold Zj
   exact List.any_eq_true.2 ⟨e.arc,(h5 _).2 (List.mem_cons_self ..),hm hn⟩
  ·exact hs.ne (by rw[hd];rfl)
 ·intro hd
  rcases Zlu l mask must hl with ⟨h,_⟩|⟨v,hs⟩
  ·exact absurd h hd
  ·obtain⟨a,ha,hm⟩:∃a∈(ZcM l mask must).map Edge.arc,(Zat must=true→isM must a=true):=by
    by_cases hn:Zat must=true
    ·have:=hs.m hn
     unfold Zj at this
     obtain⟨a,ha,h⟩:=List.any_eq_true.1 this
     exact⟨a,ha,fun _=>h⟩
    ·obtain⟨a,t,e⟩:=List.exists_cons_of_ne_nil hs.ne
     exact⟨a,by rw[e];exact List.mem_cons_self ..,fun h=>absurd h hn⟩
   obtain⟨c1,c2,e⟩:=List.append_of_mem ha
   have hw:=hs.w
   rw[e]at hw
   have ham:=ZaP hw a (by simp)
   obtain⟨b,hb,rfl⟩:=List.mem_map.1 ham
   obtain⟨h1,h2⟩:=ZhX hw
   exact⟨b,hb,hm,RchE.trans (ZhW h2) (ZhW h1)⟩
end Go.Proofs.YtklmahmfmbppkaaGreat
