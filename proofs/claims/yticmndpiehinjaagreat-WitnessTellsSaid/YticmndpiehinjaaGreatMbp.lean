/- Closed walks: the edge of an arc. -/
import Derived.BigRegion
import Derived.Test.YticmndpiehinjaaGreatMbo
namespace Go.Proofs.YticmndpiehinjaaGreat
set_option linter.unusedVariables false
set_option linter.unusedSimpArgs false
section
open Go.RowKit
def Zc2 (ids keys:List Int) (a:HArc):Edge:=⟨ids.getD a.f.toNat 0,ids.getD a.t.toNat 0,a.kind,keys.getD a.label.toNat 0⟩
set_option maxRecDepth 100000 in
set_option maxHeartbeats 8000000 in
theorem Zsa (F1 F2:Nat→Prop) (w:World) (A B:Option Addr) (ca cb:Nat) (ids keys:List Int) (hA:Ints F1 w A ids) (hB:Ints F2 w B keys) (a:HArc)
  (h1:0≤a.f) (h2:a.f<(ids.length:Int)) (h3:0≤a.t) (h4:a.t<(ids.length:Int)) (h5:0≤a.label) (h6:a.label<(keys.length:Int)):
  Calls Tryz.prog 54 #[.agg #[.slice A ids.length ca,.slice B keys.length cb],.agg a.cells.toArray] w fun e w'=>e= .returned (.agg (Zc2 ids keys a).cells.toArray)∧Upd No w w':=by
 obtain⟨af,at',ak,al⟩:=a;simp only at h1 h2 h3 h4 h5 h6;obtain⟨f,rfl⟩:∃f:Nat,af=(f:Int):=⟨af.toNat,by omega⟩;obtain⟨t,rfl⟩:∃t:Nat,at'=(t:Int):=⟨at'.toNat,by omega⟩;obtain⟨lb,rfl⟩:∃t:Nat,al=(t:Int):=⟨al.toNat,by omega⟩;have hf:f<ids.length:=by omega
 have ht:t<ids.length:=by omega
 have hlb:lb<keys.length:=by omega
 obtain⟨wb,hwb⟩:∃wb,((w.alloc (.cells #[.slice A ids.length ca,.slice B keys.length cb] 90)).alloc (.cells #[.int .i64 (f:Int),.int .i64 (t:Int),.int .i64 ak,.int .i64 (lb:Int)] 102)).alloc (.cells #[.int .i64 0,.int .i64 0,.int .i64 0,.int .i64 0] 68)=wb:=⟨_,rfl⟩;have u0:Upd No w wb:=by rw[←hwb];exact(((Upd.refl No w).alloc _).alloc _).alloc _
 have bN:Blk wb w.heap.size 90 [.slice A ids.length ca,.slice B keys.length cb]:=by rw[←hwb];exact((Blk.new w _ _).alloc _).alloc _
 have bA:Blk wb (w.heap.size+1) 102 [.int .i64 (f:Int),.int .i64 (t:Int),.int .i64 ak,.int .i64 (lb:Int)]:=by
  rw[←hwb];have:=(Blk.new (w.alloc (.cells #[.slice A ids.length ca,.slice B keys.length cb] 90)) 102 [.int .i64 (f:Int),.int .i64 (t:Int),.int .i64 ak,.int .i64 (lb:Int)]).alloc (.cells #[.int .i64 0,.int .i64 0,.int .i64 0,.int .i64 0] 68);simpa only[World.size_alloc]using this
 have bE:Blk wb (w.heap.size+2) 68 [.int .i64 0,.int .i64 0,.int .i64 0,.int .i64 0]:=by
  rw[←hwb];have:=Blk.new ((w.alloc (.cells #[.slice A ids.length ca,.slice B keys.length cb] 90)).alloc (.cells #[.int .i64 (f:Int),.int .i64 (t:Int),.int .i64 ak,.int .i64 (lb:Int)] 102)) 68 [.int .i64 0,.int .i64 0,.int .i64 0,.int .i64 0];simpa only[World.size_alloc]using this
 obtain⟨aa,rfl,_,la,y1⟩:=hA.at_ hf;obtain⟨aa',e',_,_,y2⟩:=hA.at_ ht
 cases e'
 obtain⟨ab,rfl,_,lb2,y3⟩:=hB.at_ hlb;have e1:ids[f]=ids.getD f 0:=by simp[List.getD,hf]
 have e2:ids[t]=ids.getD t 0:=by simp[List.getD,ht]
 have e3:keys[lb]=keys.getD lb 0:=by simp[List.getD,hlb]
 rw[e1]at y1;rw[e2]at y2;rw[e3]at y3;have r0:=bE.cell 0;have r1:=bE.cell 1;have r2:=bE.cell 2;have r3:=bE.cell 3;have f0:=bE.free 0;have f1:=bE.free 1;have f2:=bE.free 2;have f3:=bE.free 3;simp only[Qz,Qs]at r0 r1 r2 r3;have nN:¬One (w.heap.size+2) w.heap.size:=by unfold One;omega
 have nA:¬One (w.heap.size+2) (w.heap.size+1):=by unfold One;omega
 have z1:∀W,Upd (One (w.heap.size+2)) wb W→W.cell? (aa.add f)=some (.int .i64 (ids.getD f 0)):=fun W u=>u.keep (u0.keepNo y1) (by rw[Ints.block_add];unfold One;omega)
 have z2:∀W,Upd (One (w.heap.size+2)) wb W→W.cell? (aa.add t)=some (.int .i64 (ids.getD t 0)):=fun W u=>u.keep (u0.keepNo y2) (by rw[Ints.block_add];unfold One;omega)
 have z3:∀W,Upd (One (w.heap.size+2)) wb W→W.cell? (ab.add lb)=some (.int .i64 (keys.getD lb 0)):=fun W u=>u.keep (u0.keepNo y3) (by rw[Ints.block_add];unfold One;omega)
 clear y1 y2 y3;have c0:∀W,Upd (One (w.heap.size+2)) wb W→W.cell? ⟨w.heap.size,0,none⟩=some (.slice (some aa) ids.length ca):=fun W u=>by have:=(bN.upd u nN).cell 0;simpa using this
 have c1:∀W,Upd (One (w.heap.size+2)) wb W→W.cell? ⟨w.heap.size,1,none⟩=some (.slice (some ab) keys.length cb):=fun W u=>by have:=(bN.upd u nN).cell 1;simpa using this
 have g0:∀W,Upd (One (w.heap.size+2)) wb W→W.cell? ⟨w.heap.size+1,0,none⟩=some (.int .i64 (f:Int)):=fun W u=>by have:=(bA.upd u nA).cell 0;simpa using this
 have g1:∀W,Upd (One (w.heap.size+2)) wb W→W.cell? ⟨w.heap.size+1,1,none⟩=some (.int .i64 (t:Int)):=fun W u=>by have:=(bA.upd u nA).cell 1;simpa using this
 have g2:∀W,Upd (One (w.heap.size+2)) wb W→W.cell? ⟨w.heap.size+1,2,none⟩=some (.int .i64 ak):=fun W u=>by have:=(bA.upd u nA).cell 2;simpa using this
 have g3:∀W,Upd (One (w.heap.size+2)) wb W→W.cell? ⟨w.heap.size+1,3,none⟩=some (.int .i64 (lb:Int)):=fun W u=>by have:=(bA.upd u nA).cell 3;simpa using this
 have i1:(0:Int)≤(f:Int):=Qn _;have i2:(0:Int)≤(t:Int):=Qn _;have i3:(0:Int)≤(lb:Int):=Qn _;have HV:Zc2 ids keys ⟨f,t,ak,lb⟩=⟨ids.getD f 0,ids.getD t 0,ak,keys.getD lb 0⟩:=rfl;rw[HV]
 generalize ids.getD f 0=vf at*
 generalize ids.getD t 0=vt at*
 generalize keys.getD lb 0=vl at*
 have U0:=Qh u0;have BE:=Qh bE;unfold HArc.cells Edge.cells;simp only;clear hA hB u0 bN bA bE e1 e2 e3 h1 h3 h5 HV hf ht hlb
 go_enter Tryz.func54,Tryz.ntmps54
 go_wp2_with fail
 clear hwb;have HE:=Qh BE.out;clear r0 r1 r2 r3 f0 f1 f2 f3;refine wp_region_noPanic ?_;refine wp_region_held_drew (S:=(fun w'=>Upd (One (w.heap.size+2)) wb w')) (by kernel_rfl) ?_ (fun hHeld=> ?_)
 ·(first|exact(Upd.refl _ _).drew|exact hHeld.trans hq)
 refine wpK 0 rfl ?_;refine wpK 1 rfl ?_;refine wpK 2 rfl ?_;refine wpK 3 rfl ?_;refine wpK 4 rfl ?_;refine wpK 5 rfl ?_;refine wpK 6 rfl ?_;refine wpK 7 rfl ?_;refine wpK 8 rfl ?_;refine wpK 9 rfl ?_;refine wpK 10 rfl ?_;refine wpK 11 rfl ?_;refine wpK 12 rfl ?_;refine wpK 13 rfl ?_;refine wpK 14 rfl ?_;refine wpK 15 rfl ?_;refine wpK 16 rfl ?_;refine wpK 17 rfl ?_;refine wpK 18 rfl ?_;refine wpK 19 rfl ?_;refine wpK 20 rfl ?_;refine wpR [21] ?_;refine wpC rfl (fun K hK=> ?_) AllReadyH.nil
 (first
  |(refine Zco rfl rfl (g:=w.heap.size+2) (cells:=[.int .i64 vf,.int .i64 vt,.int .i64 ak,.int .i64 vl]) rfl rfl (show Blk _ _ 68 [.int .i64 0,.int .i64 0,.int .i64 0,.int .i64 0] from HE.out) (by kernel_rfl) rfl rfl ?_;intro w5 hb5 hu5;have HE:=Qh hb5;have hq:Upd (One (w.heap.size+2)) _ _:=hu5;clear hb5 hu5))
 refine hK.out _ _ ?_ (fun hHeld=> ?_)
 ·(first|exact(Upd.refl _ _).drew|exact hHeld.trans hq)
 clear hK K
 try simp only[Act.put,sT,sS,sZ]
 refine wpD (NoPanic.normal ?_);go_wp2;refine bodyPost_ret (results_cell_row (p:=4) rfl _ _ _ _ _ _ _ rfl HE.out Tryz.underlying68 rfl (by kernel_rfl)) rfl ⟨rfl,?_⟩;exact U0.out.then_ hHeld fun k e=> .inr (by unfold One at e;omega)
end
/- Closed walks,plain:the document's answer,and that the search by ranks tells the same. -/
section
open Go.RowKit
def Zb1:List Edge→List Edge→List Edge
 |acc,[]=>acc
 |acc,e::l=>Zb1 (ZbI e acc) l
def ZbE:List Int→List Edge→List Int
 |acc,[]=>acc
 |acc,e::l=>ZbE (Zf e.t (Zf e.f acc)) l
def Zak (must:Int):Bool:=Zm must 1||(Zm must 2||Zm must 3)
def Za3 (l:List Edge) (mask:Int):List Edge:=Zb1 [] (l.filter fun e=>Zm mask e.k)
def Zec (q:List Edge) (must:Int):Nat×Int:=ZbY (Zag must (Zak must) q) (2*(ZbE [] q).length) (ZbE [] q) (0,0)
def ZaU (l:List Edge) (mask must:Int):List Edge:=
 if (Zec (Za3 l mask) must).1=0 then [] else ZA must (Za3 l mask) (Zi must (Za3 l mask) (Zec (Za3 l mask) must).2) (Zec (Za3 l mask) must).1 (Zec (Za3 l mask) must).2 (Zak must)
theorem ZlO {a b:Edge} (h:a.arc=b.arc):a=b:=by rw[←Zfq a,←Zfq b,h]
theorem Zk8 {l m:List Edge} (h:l.map Edge.arc=m.map Edge.arc):l=m:=by
 have:=congrArg (List.map HArc.edge) h;rw[List.map_map,List.map_map]at this
 have e:∀x:List Edge,x.map (HArc.edge ∘ Edge.arc)=x:=fun x=>by
  conv=>rhs;rw[←List.map_id x]
  exact List.map_congr_left fun _ _=>rfl
 rwa [e,e]at this
theorem mem_arcs {l:List Edge} {e:Edge}:e.arc∈l.map Edge.arc↔e∈l:=by
 rw[List.mem_map];exact⟨fun⟨x,hx,h⟩=>ZlO h▸hx,fun h=>⟨e,h,rfl⟩⟩
theorem ZnB (a b:Edge) (l:List Edge):b∈ZbI a l↔b=a∨b∈l:=by
 rw[←mem_arcs,Zes,ZbK,mem_arcs];exact⟨fun h=>h.imp ZlO id,fun h=>h.imp (fun e=>by rw[e]) id⟩
theorem ZkD (a:Edge) (l:List Edge) (h:l.Pairwise fun a b=>ltE a b=true):(ZbI a l).Pairwise fun a b=>ltE a b=true:=by
 have h1:Z9 (l.map Edge.arc):=List.pairwise_map.2 (h.imp fun {x y} e=>by rw[←Zd3];exact e);have h2:=Zdj a.arc _ h1;rw[←Zes]at h2;exact(List.pairwise_map.1 h2).imp fun {x y} e=>by rw[Zd3];exact e
theorem Zi5 (b:Edge):∀(l acc:List Edge),b∈Zb1 acc l↔b∈acc∨b∈l
 |[],acc=>by simp[Zb1]
 |e::l,acc=>by
  show b∈Zb1 (ZbI e acc) l↔_
  rw[Zi5 b l,ZnB,List.mem_cons]
  constructor
  ·rintro((h|h)|h)
   ·exact .inr (.inl h)
   ·exact .inl h
   ·exact .inr (.inr h)
  ·rintro(h|h|h)
   ·exact .inl (.inr h)
   ·exact .inl (.inl h)
   ·exact .inr h
theorem Zf3:∀(l acc:List Edge),(acc.Pairwise fun a b=>ltE a b=true)→(Zb1 acc l).Pairwise fun a b=>ltE a b=true
 |[],_,h=>h
 |e::l,acc,h=>Zf3 l _ (ZkD e acc h)
theorem Zjl (a:Edge) (l:List Edge):(ZbI a l).length≤l.length+1:=by
 have:=Zj6 a.arc (l.map Edge.arc);rw[←Zes,List.length_map,List.length_map]at this;exact this
theorem Zjm:∀(l acc:List Edge),(Zb1 acc l).length≤acc.length+l.length
 |[],acc=>by simp[Zb1]
 |e::l,acc=>by
  have:=Zjm l (ZbI e acc);have:=Zjl e acc
  show(Zb1 (ZbI e acc) l).length≤_
  simp only[List.length_cons];omega
theorem Zki (x:Int):∀(l:List Edge) (acc:List Int),x∈ZbE acc l↔x∈acc∨∃e∈l,x=e.f∨x=e.t
 |[],acc=>by simp[ZbE]
 |e::l,acc=>by
  show x∈ZbE (Zf e.t (Zf e.f acc)) l↔_
  rw[Zki x l,Za2,Za2]
  constructor
  ·rintro((h|h|h)|⟨y,hy,h⟩)
   ·exact .inr ⟨e,List.mem_cons_self,.inr h⟩
   ·exact .inr ⟨e,List.mem_cons_self,.inl h⟩
   ·exact .inl h
   ·exact .inr ⟨y,List.mem_cons_of_mem _ hy,h⟩
  ·rintro(h|⟨y,hy,h⟩)
   ·exact .inl (.inr (.inr h))
   ·rcases List.mem_cons.1 hy with rfl|hy
    ·rcases h with h|h
     ·exact .inl (.inr (.inl h))
     ·exact .inl (.inl h)
    ·exact .inr ⟨y,hy,h⟩
theorem ZeN:∀(l:List Edge) (acc:List Int),acc.Pairwise (·<·)→(ZbE acc l).Pairwise (·<·)
 |[],_,h=>h
 |e::l,acc,h=>ZeN l _ (Zc8 _ _ (Zc8 _ _ h))
theorem Zkv:∀(l:List Edge) (acc:List Int),(ZbE acc l).length≤acc.length+2*l.length
 |[],acc=>by simp[ZbE]
 |e::l,acc=>by
  have:=Zkv l (Zf e.t (Zf e.f acc));have:=Zo e.t (Zf e.f acc);have:=Zo e.f acc
  show(ZbE (Zf e.t (Zf e.f acc)) l).length≤_
  simp only[List.length_cons];omega
theorem mem_docQ {l:List Edge} {mask:Int} {e:Edge}:e∈Za3 l mask↔e∈l∧Zm mask e.k=true:=by
 unfold Za3;rw[Zi5,List.mem_filter];simp
theorem Zbl {mask k:Int} (h:Zm mask k=true):1≤k∧k≤3∧Zt mask k=true:=by
 unfold Zm at h;rw[Bool.and_eq_true,Bool.and_eq_true,decide_eq_true_eq,decide_eq_true_eq]at h;exact⟨h.1,h.2.1,h.2.2⟩
theorem Zkl (l:List Edge):∃lo:Int,∀e∈l,lo≤e.f:=by
 induction l with
 |nil=>exact⟨0,fun e he=>by cases he⟩
 |cons a l ih=>
  obtain⟨lo,h⟩:=ih;refine⟨min lo a.f,fun e he=> ?_⟩;rcases List.mem_cons.1 he with rfl|he
  ·omega
  ·have:=h e he;omega
theorem Short.mem {D D':List HArc} {must:Int} {need:Bool} {v:Int} {c:List HArc} (h:Short D must need v c) (hD:∀a,a∈D↔a∈D'):Short D' must need v c:=
 h.less (fun a ha=>(hD a).2 ha) (fun a ha=>(hD a).1 (Zbd h.w a ha))
theorem NoWay.mem {D D':List HArc} {must:Int} {need:Bool} (h:NoWay D must need) (hD:∀a,a∈D'→a∈D):NoWay D' must need:=
 fun u c' n1 n2 n3=>h u c' n1 (Zd0 hD (Int.le_refl _) n2) n3
section
variable {l:List Edge} {mask must:Int}
theorem Zf5 (a:HArc):a∈(Za3 l mask).map Edge.arc↔a∈(l.filter fun e=>Zm mask e.k).map Edge.arc:=by
 rw[←Zpm a,mem_arcs,mem_arcs,mem_docQ,List.mem_filter]
theorem Zh6 {v:Int} {c:List HArc} (h:Short ((l.filter fun e=>Zm mask e.k).map Edge.arc) must (Zak must) v c):(ZaU l mask must).map Edge.arc=c:=by
 have h2:=h.mem (fun a=>(Zf5 (l:=l) (mask:=mask) a).symm);obtain⟨lo,hlo⟩:=Zkl (Za3 l mask);have hk:∀e∈Za3 l mask,1≤e.k∧e.k≤3:=fun e he=>⟨(Zbl (mem_docQ.1 he).2).1,(Zbl (mem_docQ.1 he).2).2.1⟩
 have hF:=Zk4 (ids:=ZbE [] (Za3 l mask)) (l:=Za3 l mask) (most:=2*(ZbE [] (Za3 l mask)).length) (Zf3 _ _ List.Pairwise.nil) hlo hk (ZeN _ _ List.Pairwise.nil) (fun e he=>(Zki _ _ _).2 (.inr ⟨e,he,.inl rfl⟩)) (by omega) h2;have hb:Zec (Za3 l mask) must=(c.length,v):=hF.1;have hc:¬c.length=0:=fun e=>h.ne (List.eq_nil_of_length_eq_zero e)
 unfold ZaU;rw[hb,if_neg hc];exact hF.2
theorem Zjn (h:NoWay ((l.filter fun e=>Zm mask e.k).map Edge.arc) must (Zak must)):ZaU l mask must=[]:=by
 have h2:=h.mem (fun a ha=>(Zf5 (l:=l) (mask:=mask) a).1 ha);obtain⟨lo,hlo⟩:=Zkl (Za3 l mask);have hk:∀e∈Za3 l mask,1≤e.k∧e.k≤3:=fun e he=>⟨(Zbl (mem_docQ.1 he).2).1,(Zbl (mem_docQ.1 he).2).2.1⟩
 have hb:(Zec (Za3 l mask) must).1=0:=ZhE hlo hk (ZeN _ _ List.Pairwise.nil) _ h2;unfold ZaU;rw[if_pos hb]
end
def Z2 (l:List Edge) (mask:Int):List Edge:=l.filter fun e=>Zm mask e.k
def ZbU:List Edge→List Int
 |[]=>[]
 |e::l=>e.f::e.t::ZbU l
theorem Zg4 (x:Int):∀l:List Edge,x∈ZbU l↔∃e∈l,x=e.f∨x=e.t
 |[]=>by simp[ZbU]
 |e::l=>by
  show x∈e.f::e.t::ZbU l↔_
  rw[List.mem_cons,List.mem_cons,Zg4 x l]
  constructor
  ·rintro(h|h|⟨y,hy,h⟩)
   ·exact⟨e,List.mem_cons_self,.inl h⟩
   ·exact⟨e,List.mem_cons_self,.inr h⟩
   ·exact⟨y,List.mem_cons_of_mem _ hy,h⟩
  ·rintro⟨y,hy,h⟩;rcases List.mem_cons.1 hy with rfl|hy
   ·rcases h with h|h
    ·exact .inl h
    ·exact .inr (.inl h)
   ·exact .inr (.inr ⟨y,hy,h⟩)
theorem Zha:∀l:List Edge,(ZbU l).length=2*l.length
 |[]=>rfl
 |e::l=>by
  show(ZbU l).length+1+1=_
  rw[Zha l];simp only[List.length_cons];omega
def ZaH (D:List Edge):List Int:=ZB (ZbU D)
def Zbi (D:List Edge):List Int:=ZB (D.map Edge.key)
def Zci (ids keys:List Int) (N:Nat):List HArc→List Edge→List HArc
 |q,[]=>q
 |q,e::l=>Zci ids keys N (ZdC N q (toR ids keys e.arc)) l
theorem Zi6 {ids keys:List Int} {N:Nat} (b:HArc):∀(l:List Edge) (q:List HArc),(∀e∈l,Zq N (toR ids keys e.arc)=true)→(b∈Zci ids keys N q l↔b∈q∨∃e∈l,b=toR ids keys e.arc)
 |[],q,_=>by simp[Zci]
 |e::l,q,hr=>by
  have h1:b∈ZdC N q (toR ids keys e.arc)↔b=toR ids keys e.arc∨b∈q:=by
   unfold ZdC;rw[if_pos (hr e List.mem_cons_self)]
   split
   ·rename_i hm
    exact⟨.inr,fun h=>h.elim (fun e=>by rw[e];exact hm) id⟩
   ·exact ZbK _ _ _
  show b∈Zci ids keys N (ZdC N q (toR ids keys e.arc)) l↔_
  rw[Zi6 b l _ (fun x hx=>hr x (List.mem_cons_of_mem _ hx)),h1]
  constructor
  ·rintro((h|h)|⟨y,hy,h⟩)
   ·exact .inr ⟨e,List.mem_cons_self,h⟩
   ·exact .inl h
   ·exact .inr ⟨y,List.mem_cons_of_mem _ hy,h⟩
  ·rintro(h|⟨y,hy,h⟩)
   ·exact .inl (.inr h)
   ·rcases List.mem_cons.1 hy with rfl|hy
    ·exact .inl (.inl h)
    ·exact .inr ⟨y,hy,h⟩
section
variable {D:List Edge}
theorem Zhb {e:Edge} (he:e∈D):e.f∈ZaH D∧e.t∈ZaH D:=⟨(Zb6 _ _).2 ((Zg4 _ _).2 ⟨e,he,.inl rfl⟩),(Zb6 _ _).2 ((Zg4 _ _).2 ⟨e,he,.inr rfl⟩)⟩
theorem ZfX {e:Edge} (he:e∈D):e.key∈Zbi D:=(Zb6 _ _).2 (List.mem_map.2 ⟨e,he,rfl⟩)
theorem ZfF (hk:∀e∈D,1≤e.k∧e.k≤3) (hl:D.length≤100000) {e:Edge} (he:e∈D):Zq (ZaH D).length (toR (ZaH D) (Zbi D) e.arc)=true:=by
 rw[ZP];have h1:=Zhb he;have h2:=ZfX he;have f1:=ZdH (ZaH D) e.f;have f2:=ZdH (ZaH D) e.t;have f3:=ZdH (Zbi D) e.key;have g1:=(Zb3 (Zbx (ZbU D)) h1.1).1;have g2:=(Zb3 (Zbx (ZbU D)) h1.2).1;have g3:=(Zb3 (Zbx (D.map Edge.key)) h2).1;have k:=hk e he
 have hkl:(Zbi D).length≤D.length:=by
  have:=ZeY (D.map Edge.key)
  rwa [List.length_map]at this
 exact⟨f1.1,g1,f2.1,g2,k.1,k.2,f3.1,by
  have g3':rk (Zbi D) e.key<((Zbi D).length:Int):=g3
  show rk (Zbi D) e.key≤1048575
  omega⟩
theorem ZpP (hk:∀e∈D,1≤e.k∧e.k≤3) (hl:D.length≤100000):Rk (D.map Edge.arc) (ZaH D) (Zbi D) (Zci (ZaH D) (Zbi D) (ZaH D).length [] D):=by
 refine⟨Zbx _,Zbx _,fun a ha=> ?_,fun a ha=> ?_,fun b=> ?_⟩
 ·obtain⟨e,he,rfl⟩:=List.mem_map.1 ha;exact Zhb he
 ·obtain⟨e,he,rfl⟩:=List.mem_map.1 ha;exact ZfX he
 ·rw[Zi6 b D [] (fun e he=>ZfF hk hl he)]
  constructor
  ·rintro(h|⟨e,he,h⟩)
   ·cases h
   ·exact⟨e.arc,List.mem_map.2 ⟨e,he,rfl⟩,h⟩
  ·rintro⟨a,ha,h⟩;obtain⟨e,he,rfl⟩:=List.mem_map.1 ha;exact .inr ⟨e,he,h⟩
end
theorem Zgf (x:Int) (j:Nat) (hj:j=1∨j=2∨j=3):Zt (bits .and .i64 x 14) (j:Int)=Zt x (j:Int):=by
 rw[Zhk x 14 j hj];have:Zt 14 (j:Int)=true:=by rcases hj with rfl|rfl|rfl<;>rfl
 rw[this,Bool.and_true]
theorem Zn4 (x k:Int):Zm (bits .and .i64 x 14) k=Zm x k:=by
 unfold Zm
 by_cases h1:1≤k
 ·by_cases h2:k≤3
  ·obtain⟨j,rfl,hj⟩:=ZcE h1 h2;rw[Zgf x j hj]
  ·rw[decide_eq_false h2];simp
 ·rw[decide_eq_false h1];simp
theorem Zsf (mask:Int) (e:Edge):ZaR (bits .and .i64 mask 14) e= !Zm mask e.k:=by
 rw[←Zn4 mask e.k];unfold ZaR Zm
 by_cases h1:e.k<1
 ·rw[decide_eq_true h1,decide_eq_false (show¬1≤e.k by omega)];rfl
 ·rw[decide_eq_false h1,decide_eq_true (show 1≤e.k by omega)]
  by_cases h2:3<e.k
  ·rw[decide_eq_true h2,decide_eq_false (show¬e.k≤3 by omega)];rfl
  ·rw[decide_eq_false h2,decide_eq_true (show e.k≤3 by omega)];simp
theorem ZpC (x:Int) (y:Nat) (hy:y≤1000):bits .and .i64 x (y:Int)=(((x%18446744073709551616).toNat &&& y:Nat):Int):=by
 change IntKind.i64.wrap (((BitVec.ofInt 64 x &&& BitVec.ofInt 64 (y:Int)).toNat:Nat):Int)=_;have h1:(BitVec.ofInt 64 x).toNat=(x%18446744073709551616).toNat:=by rw[BitVec.toNat_ofInt];rfl
 have h2:(BitVec.ofInt 64 (y:Int)).toNat=y:=by rw[BitVec.toNat_ofInt];omega
 rw[BitVec.toNat_and,h1,h2];have h3:(x%18446744073709551616).toNat &&& y≤y:=Nat.and_le_right;exact IntWalk.i64_in _ (by omega)
theorem ZrR (must:Int):(bits .and .i64 must 14 != 0)=Zak must:=by
 have h1:=Zgf must 1 (.inl rfl);have h2:=Zgf must 2 (.inr (.inl rfl));have h3:=Zgf must 3 (.inr (.inr rfl));have hn:Zak must=(Zt must ((1:Nat):Int)||(Zt must ((2:Nat):Int)||Zt must ((3:Nat):Int))):=rfl;rw[hn,←h1,←h2,←h3];have h:=ZpC must 14 (by decide);have h':bits .and .i64 must 14=((((must%18446744073709551616).toNat &&& 14:Nat)):Int):=h;rw[h']
 generalize (must%18446744073709551616).toNat=n
 have e1:∀j:Nat,Zt (((n &&& 14:Nat)):Int) (j:Int)=(n &&& 14).testBit j:=by
  intro j;unfold Zt;rw[Nat.testBit_eq_decide_div_mod_eq,decide_eq_decide];rw[show((j:Int).toNat)=j from Int.toNat_natCast j]
  have:(((n &&& 14:Nat):Int)/2 ^ j)%2=(((n &&& 14)/2 ^ j%2:Nat):Int):=by
   norm_cast
  rw[this];omega
 rw[e1,e1,e1]
 by_cases hz:n &&& 14=0
 ·rw[hz];rfl
 ·have hb:((((n &&& 14:Nat)):Int) != 0)=true:=by rw[bne_iff_ne];omega
  rw[hb];refine Eq.symm ?_;refine Classical.byContradiction fun hc=>hz ?_
  have hc:((n &&& 14).testBit 1||((n &&& 14).testBit 2||(n &&& 14).testBit 3))=false:=by simpa using hc
  rw[Bool.or_eq_false_iff,Bool.or_eq_false_iff]at hc;refine Nat.eq_of_testBit_eq fun i=> ?_
  rw[Nat.zero_testBit,Nat.testBit_and]
  by_cases hi:i=1∨i=2∨i=3
  ·rw[←Nat.testBit_and];rcases hi with rfl|rfl|rfl
   ·exact hc.1
   ·exact hc.2.1
   ·exact hc.2.2
  ·have:Nat.testBit 14 i=false:=by
    match i,hi with
    |0,_=>rfl
    |1,h=>exact absurd (.inl rfl) h
    |2,h=>exact absurd (.inr (.inl rfl)) h
    |3,h=>exact absurd (.inr (.inr rfl)) h
    |i+4,_=>
     refine Nat.testBit_lt_two_pow ?_;have:2 ^ (i+4)=2 ^ i*16:=by rw[Nat.pow_add]
     have:=Nat.two_pow_pos i;omega
   rw[this,Bool.and_false]
theorem Zqe {l:List Edge} {mask must:Int} (hl:l.length≤100000) {q:List HArc} (ids keys:List Int) (hids:ids=ZaH (Z2 l mask)) (hkeys:keys=Zbi (Z2 l mask)) (hq:q=Zci ids keys ids.length [] (Z2 l mask)) (hs:Z9 q) (ks:Int→Int) (ws:Int→List HArc)
  (hk:∀i:Int,0≤i→i<(ids.length:Int)→ks i=Zac (ofA (bits .and .i64 mask 14) q) (bits .and .i64 must 14) i (Z7 ids.length q (bits .and .i64 mask 14) i) (Zw ids.length q (bits .and .i64 mask 14) (bits .and .i64 must 14) i) (Zak must))
  (hk2:∀i:Int,0≤i→(ids.length:Int)≤i→ks i=0) (hk3:∀i:Int,i<0→ks i=0)
  (hw:∀i:Int,0≤i→i<(ids.length:Int)→ws i=ZG (ofA (bits .and .i64 mask 14) q) (bits .and .i64 must 14) i (Z7 ids.length q (bits .and .i64 mask 14) i) (Zw ids.length q (bits .and .i64 mask 14) (bits .and .i64 must 14) i) (ks i).toNat i (Zak must)):
  ZaU l mask must=(ZN ks ws ids.length).map (Zc2 ids keys)∧∀a∈ZN ks ws ids.length,Zq ids.length a=true∧a.label<(keys.length:Int):=by
 have hkD:∀e∈Z2 l mask,1≤e.k∧e.k≤3:=fun e he=>by
  have:=Zbl (List.mem_filter.1 he).2;exact⟨this.1,this.2.1⟩
 have hlD:(Z2 l mask).length≤100000:=Nat.le_trans (List.length_filter_le _ _) hl;have hR:=ZpP hkD hlD;rw[←hids,←hkeys,←hq]at hR
 have hr:∀a∈q,Zq ids.length a=true:=fun a ha=>by
  obtain⟨b,hb,rfl⟩:=(hR.mq a).1 ha;obtain⟨e,he,rfl⟩:=List.mem_map.1 hb;rw[hids,hkeys];exact ZfF hkD hlD he
 have hlab:∀a∈q,a.label<(keys.length:Int):=fun a ha=>by
  obtain⟨b,hb,rfl⟩:=(hR.mq a).1 ha;exact(Zb3 hR.sk (hR.ml b hb)).1
 have hof:ofA (bits .and .i64 mask 14) q=q:=by
  unfold ofA;rw[List.filter_eq_self];intro a ha;obtain⟨b,hb,rfl⟩:=(hR.mq a).1 ha;obtain⟨e,he,rfl⟩:=List.mem_map.1 hb;have h1:=(List.mem_filter.1 he).2;rw[←Zn4]at h1;exact(Zbl h1).2.2
 have hmust:∀a∈(Z2 l mask).map Edge.arc,isM (bits .and .i64 must 14) a=isM must a:=fun a ha=>by
  obtain⟨e,he,rfl⟩:=List.mem_map.1 ha;obtain⟨j,hj,hj2⟩:=ZcE (hkD e he).1 (hkD e he).2
  show Zt _ e.k=Zt _ e.k
  rw[hj,Zgf must j hj2]
 have hmap:∀c:List HArc,(c.map (unR ids keys))=(c.map (Zc2 ids keys)).map Edge.arc:=fun c=>by
  rw[List.map_map];exact List.map_congr_left fun _ _=>rfl
 rcases Zib hr hs (bits .and .i64 mask 14) (bits .and .i64 must 14) (Zak must) ks ws hk hk2 hk3 hw with ⟨e,h⟩|⟨v,h0,h1,h⟩
 ·rw[hof]at h;rw[e];exact⟨Zjn ((hR.none h).must hmust),fun a ha=>by cases ha⟩
 ·rw[hof]at h;refine⟨?_,fun a ha=>⟨hr a (Zbd h.w a ha),hlab a (Zbd h.w a ha)⟩⟩;have h2:=Zh6 ((hR.short h0 h1 h).must hmust);rw[hmap]at h2;exact Zk8 h2
theorem ZlI (l:List Edge) (mask must:Int) (hl:l.length≤100000):(ZaU l mask must=[]∧NoWay ((Z2 l mask).map Edge.arc) must (Zak must))∨∃v,Short ((Z2 l mask).map Edge.arc) must (Zak must) v ((ZaU l mask must).map Edge.arc):=by
 have hkD:∀e∈Z2 l mask,1≤e.k∧e.k≤3:=fun e he=>by
  have:=Zbl (List.mem_filter.1 he).2;exact⟨this.1,this.2.1⟩
 have hlD:(Z2 l mask).length≤100000:=Nat.le_trans (List.length_filter_le _ _) hl;have hR:=ZpP hkD hlD;obtain⟨q,hq⟩:∃q,(Zci (ZaH (Z2 l mask)) (Zbi (Z2 l mask)) (ZaH (Z2 l mask)).length [] (Z2 l mask))=q:=⟨_,rfl⟩;rw[hq]at hR
 have hs:Z9 q:=by
  rw[←hq]
  have:∀(m:List Edge) (q:List HArc),Z9 q→Z9 (Zci (ZaH (Z2 l mask)) (Zbi (Z2 l mask)) (ZaH (Z2 l mask)).length q m):=by
   intro m
   induction m with
   |nil=>exact fun q h=>h
   |cons e m ih=>
    intro q h;refine ih _ ?_;unfold ZdC
    split
    ·split
     ·exact h
     ·exact Zdj _ _ h
    ·exact h
  exact this _ _ List.Pairwise.nil
 have hr:∀a∈q,Zq (ZaH (Z2 l mask)).length a=true:=fun a ha=>by
  obtain⟨b,hb,rfl⟩:=(hR.mq a).1 ha;obtain⟨e,he,rfl⟩:=List.mem_map.1 hb;exact ZfF hkD hlD he
 have hof:ofA 14 q=q:=by
  unfold ofA;rw[List.filter_eq_self];intro a ha;obtain⟨b,hb,rfl⟩:=(hR.mq a).1 ha;obtain⟨e,he,rfl⟩:=List.mem_map.1 hb;obtain⟨j,hj,hj2⟩:=ZcE (hkD e he).1 (hkD e he).2
  show Zt 14 e.k=true
  rw[hj];rcases hj2 with rfl|rfl|rfl<;>rfl
 have hb:=Zib hr hs 14 must (Zak must) (fun i=>if 0≤i∧i<((ZaH (Z2 l mask)).length:Int) then Zac (ofA 14 q) must i (Z7 (ZaH (Z2 l mask)).length q 14 i) (Zw (ZaH (Z2 l mask)).length q 14 must i) (Zak must) else 0)
  (fun i=>ZG (ofA 14 q) must i (Z7 (ZaH (Z2 l mask)).length q 14 i) (Zw (ZaH (Z2 l mask)).length q 14 must i) (if 0≤i∧i<((ZaH (Z2 l mask)).length:Int) then Zac (ofA 14 q) must i (Z7 (ZaH (Z2 l mask)).length q 14 i) (Zw (ZaH (Z2 l mask)).length q 14 must i) (Zak must) else 0).toNat i (Zak must))
  (fun i h0 h1=>if_pos ⟨h0,h1⟩) (fun i _ h1=>if_neg (fun e=>by omega)) (fun i h1=>if_neg (fun e=>by omega)) (fun i _ _=>rfl)
 rw[hof]at hb;rcases hb with ⟨_,h⟩|⟨v,h0,h1,h⟩
 ·have h3:=hR.none h;exact .inl ⟨Zjn h3,h3⟩
 ·have h3:=hR.short h0 h1 h;rw[←Zh6 h3]at h3;exact .inr ⟨_,h3⟩
end
end Go.Proofs.YticmndpiehinjaaGreat
