/- Closed walks: the edge of an arc. -/
import Derived.Test.YtbefgiboikfojaaGreatLayBinI
import Derived.Test.YtbefgiboikfojaaGreatRcbg
namespace Go.Proofs.YtbefgiboikfojaaGreat
open Go.RowKit
set_option linter.unusedVariables false
set_option linter.unusedSimpArgs false
set_option maxRecDepth 100000
set_option maxHeartbeats 8000000
def ZdD(ids keys:Gv)(a:HArc):Edge:=⟨ids.getD a.f.toNat 0,ids.getD a.t.toNat 0,a.kind,keys.getD a.label.toNat 0⟩
theorem ZuH(F1 F2:Gt)(w:Gy)(A B:OA)(ca cb:Nat)(ids keys:Gv)(hA:Ints F1 w A ids)(hB:Ints F2 w B keys)(a:HArc)
  (h1:0<=a.f) (h2:a.f<(ids.length:Int)) (h3:0<=a.t) (h4:a.t<(ids.length:Int)) (h5:0<=a.label) (h6:a.label<(keys.length:Int)):
  CN 74 #[.agg #[.slice A ids.length ca,.slice B keys.length cb],.agg a.cells.toArray] w (.agg (ZdD ids keys a).cells.toArray):=by
 obtain⟨af,at',ak,al⟩:=a;simp only at h1 h2 h3 h4 h5 h6;obtain⟨f,rfl⟩:∃f:Nat,af=(f:Int):=⟨af.toNat,by omega⟩;obtain⟨t,rfl⟩:∃t:Nat,at'=(t:Int):=⟨at'.toNat,by omega⟩;obtain⟨lb,rfl⟩:∃t:Nat,al=(t:Int):=⟨al.toNat,by omega⟩;have hf:f<ids.length:=by omega
 have ht:t<ids.length:=by omega
 have jn:lb<keys.length:=by omega
 obtain⟨wb,ah⟩:=Qe (((w.alloc (.cells #[.slice A ids.length ca,.slice B keys.length cb] 120)).alloc (.cells #[Qi (f:Int),Qi (t:Int),Qi ak,Qi (lb:Int)] 132)).alloc (.cells #[Qi 0,Qi 0,Qi 0,Qi 0] 94));have u0:Upd No w wb:=by rw[<-ah];exact(((Gg No w).alloc _).alloc _).alloc _
 have bN:Blk wb w.heap.size 120 [.slice A ids.length ca,.slice B keys.length cb]:=by rw[<-ah];exact((Gh w _ _).alloc _).alloc _
 have bA:Blk wb (w.heap.size+1) 132 [Qi (f:Int),Qi (t:Int),Qi ak,Qi (lb:Int)]:=by
  rw[<-ah];have:=(Gh (w.alloc (.cells #[.slice A ids.length ca,.slice B keys.length cb] 120)) 132 [Qi (f:Int),Qi (t:Int),Qi ak,Qi (lb:Int)]).alloc (.cells #[Qi 0,Qi 0,Qi 0,Qi 0] 94);simpa only[Ge]using this
 have bE:Blk wb (w.heap.size+2) 94 [Qi 0,Qi 0,Qi 0,Qi 0]:=by
  rw[<-ah];have:=Gh ((w.alloc (.cells #[.slice A ids.length ca,.slice B keys.length cb] 120)).alloc (.cells #[Qi (f:Int),Qi (t:Int),Qi ak,Qi (lb:Int)] 132)) 94 [Qi 0,Qi 0,Qi 0,Qi 0];simpa only[Ge]using this
 obtain⟨aa,rfl,_,la,y1⟩:=hA.at_ hf;obtain⟨aa',e',_,_,y2⟩:=hA.at_ ht
 cases e'
 obtain⟨ab,rfl,_,lb2,y3⟩:=hB.at_ jn;have e1:ids[f]=ids.getD f 0:=by simp[List.getD,hf]
 have e2:ids[t]=ids.getD t 0:=by simp[List.getD,ht]
 have e3:keys[lb]=keys.getD lb 0:=by simp[List.getD,jn]
 rw[e1]at y1;rw[e2]at y2;rw[e3]at y3;obtain⟨r0,r1,r2,r3⟩:=bE.c4;obtain⟨f0,f1,f2,f3⟩:=bE.f4;have nN:¬One (w.heap.size+2) w.heap.size:=by unfold One;omega
 have nA:¬One (w.heap.size+2) (w.heap.size+1):=by unfold One;omega
 have z1:∀W,Upd (One (w.heap.size+2)) wb W->W.cell? (aa.add f)=some (Qi (ids.getD f 0)):=fun W u=>u.keep (u0.keepNo y1) (by rw[Ints.block_add];unfold One;omega)
 have z2:∀W,Upd (One (w.heap.size+2)) wb W->W.cell? (aa.add t)=some (Qi (ids.getD t 0)):=fun W u=>u.keep (u0.keepNo y2) (by rw[Ints.block_add];unfold One;omega)
 have z3:∀W,Upd (One (w.heap.size+2)) wb W->W.cell? (ab.add lb)=some (Qi (keys.getD lb 0)):=fun W u=>u.keep (u0.keepNo y3) (by rw[Ints.block_add];unfold One;omega)
 clear y1 y2 y3;have c0:∀W,Upd (One (w.heap.size+2)) wb W->W.cell? ⟨w.heap.size,0,none⟩=some (.slice (some aa) ids.length ca):=fun W u=>by have:=(bN.upd u nN).cell 0;simpa using this
 have c1:∀W,Upd (One (w.heap.size+2)) wb W->W.cell? ⟨w.heap.size,1,none⟩=some (.slice (some ab) keys.length cb):=fun W u=>by have:=(bN.upd u nN).cell 1;simpa using this
 have g0:∀W,Upd (One (w.heap.size+2)) wb W->W.cell? ⟨w.heap.size+1,0,none⟩=some (Qi (f:Int)):=fun W u=>by have:=(bA.upd u nA).cell 0;simpa using this
 have g1:∀W,Upd (One (w.heap.size+2)) wb W->W.cell? ⟨w.heap.size+1,1,none⟩=some (Qi (t:Int)):=fun W u=>by have:=(bA.upd u nA).cell 1;simpa using this
 have g2:∀W,Upd (One (w.heap.size+2)) wb W->W.cell? ⟨w.heap.size+1,2,none⟩=some (Qi ak):=fun W u=>by have:=(bA.upd u nA).cell 2;simpa using this
 have g3:∀W,Upd (One (w.heap.size+2)) wb W->W.cell? ⟨w.heap.size+1,3,none⟩=some (Qi (lb:Int)):=fun W u=>by have:=(bA.upd u nA).cell 3;simpa using this
 have i1:(0:Int)<=(f:Int):=Qn _;have i2:(0:Int)<=(t:Int):=Qn _;have i3:(0:Int)<=(lb:Int):=Qn _;have HV:ZdD ids keys ⟨f,t,ak,lb⟩=⟨ids.getD f 0,ids.getD t 0,ak,keys.getD lb 0⟩:=rfl;rw[HV];generalize ids.getD f 0=vf at*;generalize ids.getD t 0=vt at*;generalize keys.getD lb 0=vl at*;have U0:=Qh u0;have BE:=Qh bE;unfold HArc.cells Edge.cells;simp only;clear hA hB u0 bN bA bE e1 e2 e3 h1 h3 h5 HV hf ht jn;go_enter Tryz.func74,Tryz.ntmps74;go_wp2_with fail;clear ah;have HE:=Qh BE.out;clear r0 r1 r2 r3 f0 f1 f2 f3;refine wpS (fun w'=>Upd (One (w.heap.size+2)) wb w') ?_ fun jH=>?_
 ·(first|exact(Gg _ _).drew|exact jH.trans hq)
 (iterate 21 refine wpF ?_);refine wpZ 21 rfl fun K hK=>?_
 (first
  |(refine ZcV rfl rfl (g:=w.heap.size+2) (cells:=[Qi vf,Qi vt,Qi ak,Qi vl]) rfl rfl (show Blk _ _ 94 [Qi 0,Qi 0,Qi 0,Qi 0] from HE.out) (by kernel_rfl) rfl rfl ?_;intro w5 aS hu5;have HE:=Qh aS;have hq:Upd (One (w.heap.size+2)) _ _:=hu5;clear aS hu5))
 refine hK.out _ _ ?_ fun jH=>?_
 ·(first|exact(Gg _ _).drew|exact jH.trans hq)
 try simp only[Qa]
 refine wpD (Gd ?_);go_wp2;refine bodyPost_ret (results_cell_row (p:=4) rfl _ _ _ _ _ _ _ rfl HE.out Tryz.underlying94 rfl (by kernel_rfl)) rfl ⟨rfl,?_⟩;exact U0.out.then_ jH fun k e=> .inr (by unfold One at e;omega)
/- Closed walks,plain:the document's answer,and that the search by ranks tells the same. -/
def Zcv:List Edge->List Edge->List Edge
 |acc,[]=>acc
 |acc,e::l=>Zcv (Zca e acc) l
def Zb6:Gv->List Edge->List Int
 |acc,[]=>acc
 |acc,e::l=>Zb6 (Zg e.t (Zg e.f acc)) l
def Zae(must:Int):Bool:=Zl must 1||(Zl must 2||Zl must 3)
def Zbp(l:List Edge)(mask:Int):List Edge:=Zcv [] (l.filter fun e=>Zl mask e.k)
def ZeQ(q:List Edge)(must:Int):Nat×Int:=Zct (Zar must (Zae must) q) (2*(Zb6 [] q).length) (Zb6 [] q) (0,0)
def ZaL(l:List Edge)(mask must:Int):List Edge:=
 if (ZeQ (Zbp l mask) must).1=0 then [] else ZF must (Zbp l mask) (Zk must (Zbp l mask) (ZeQ (Zbp l mask) must).2) (ZeQ (Zbp l mask) must).1 (ZeQ (Zbp l mask) must).2 (Zae must)
theorem ZnC{a b:Edge}(h:a.arc=b.arc):a=b:=by rw[<-Zgj a,<-Zgj b,h]
theorem ZmU{l m:List Edge}(h:l.map Edge.arc=m.map Edge.arc):l=m:=by
 have:=congrArg (List.map HArc.edge) h;rw[List.map_map,List.map_map]at this
 have e:∀x:List Edge,x.map (HArc.edge ∘ Edge.arc)=x:=fun x=>by
  conv=>rhs;rw[<-List.map_id x]
  exact List.map_congr_left fun _ _=>rfl
 rwa [e,e]at this
theorem mem_arcs{l:List Edge}{e:Edge}:e.arc∈l.map Edge.arc↔e∈l:=by
 rw[Gc];exact⟨fun⟨x,hx,h⟩=>ZnC h▸hx,fun h=>⟨e,h,rfl⟩⟩
theorem ZpT(a b:Edge)(l:List Edge):b∈Zca a l↔b=a∨b∈l:=by
 rw[<-mem_arcs,Ze8,Zcd,mem_arcs];exact⟨fun h=>h.imp ZnC id,fun h=>h.imp (fun e=>by rw[e]) id⟩
theorem Zmn(a:Edge)(l:List Edge)(h:l.Pairwise fun a b=>ltE a b=true):(Zca a l).Pairwise fun a b=>ltE a b=true:=by
 have h1:Zai (l.map Edge.arc):=List.pairwise_map.2 (h.imp fun {x y} e=>by rw[<-ZeH];exact e);have h2:=ZdW a.arc _ h1;rw[<-Ze8]at h2;exact(List.pairwise_map.1 h2).imp fun {x y} e=>by rw[ZeH];exact e
theorem Zkv(b:Edge):∀(l acc:List Edge),b∈Zcv acc l↔b∈acc∨b∈l
 |[],acc=>by simp[Zcv]
 |e::l,acc=>by
  show b∈Zcv (Zca e acc) l↔_
  rw[Zkv b l,ZpT,F9]
  constructor
  ·rintro((h|h)|h)
   ·exact .inr (.inl h)
   ·exact .inl h
   ·exact .inr (.inr h)
  ·rintro(h|h|h)
   ·exact .inl (.inr h)
   ·exact .inl (.inl h)
   ·exact .inr h
theorem ZgZ:∀(l acc:List Edge),(acc.Pairwise fun a b=>ltE a b=true)->(Zcv acc l).Pairwise fun a b=>ltE a b=true
 |[],_,h=>h
 |e::l,acc,h=>ZgZ l _ (Zmn e acc h)
theorem ZkP(a:Edge)(l:List Edge):(Zca a l).length<=l.length+1:=by
 have:=ZlI a.arc (l.map Edge.arc);rw[<-Ze8,F6,F6]at this;exact this
theorem ZkQ:∀(l acc:List Edge),(Zcv acc l).length<=acc.length+l.length
 |[],acc=>by simp[Zcv]
 |e::l,acc=>by
  have:=ZkQ l (Zca e acc);have:=ZkP e acc
  show(Zcv (Zca e acc) l).length<=_
  simp only[Fs];omega
theorem ZlW(x:Int):∀(l:List Edge) (acc:Gv),x∈Zb6 acc l↔x∈acc∨∃e∈l,x=e.f∨x=e.t
 |[],acc=>by simp[Zb6]
 |e::l,acc=>by
  show x∈Zb6 (Zg e.t (Zg e.f acc)) l↔_
  rw[ZlW x l,Zbo,Zbo]
  constructor
  ·rintro((h|h|h)|⟨y,hy,h⟩)
   ·exact .inr ⟨e,Fc,.inr h⟩
   ·exact .inr ⟨e,Fc,.inl h⟩
   ·exact .inl h
   ·exact .inr ⟨y,E7 _ hy,h⟩
  ·rintro(h|⟨y,hy,h⟩)
   ·exact .inl (.inr (.inr h))
   ·rcases F9.1 hy with rfl|hy
    ·rcases h with h|h
     ·exact .inl (.inr (.inl h))
     ·exact .inl (.inl h)
    ·exact .inr ⟨y,hy,h⟩
theorem Zfw:∀(l:List Edge) (acc:Gv),acc.Pairwise (·<·)->(Zb6 acc l).Pairwise (·<·)
 |[],_,h=>h
 |e::l,acc,h=>Zfw l _ (ZdH _ _ (ZdH _ _ h))
theorem Zmc:∀(l:List Edge) (acc:Gv),(Zb6 acc l).length<=acc.length+2*l.length
 |[],acc=>by simp[Zb6]
 |e::l,acc=>by
  have:=Zmc l (Zg e.t (Zg e.f acc));have:=Zq e.t (Zg e.f acc);have:=Zq e.f acc
  show(Zb6 (Zg e.t (Zg e.f acc)) l).length<=_
  simp only[Fs];omega
theorem mem_docQ{l:List Edge}{mask:Int}{e:Edge}:e∈Zbp l mask↔e∈l∧Zl mask e.k=true:=by
 unfold Zbp;rw[Zkv,Fw];simp
theorem Zbi{mask k:Int}(h:Zl mask k=true):1<=k∧k<=3∧Zj mask k=true:=by
 unfold Zl at h;rw[Fp,Fp,Ff,Ff]at h;exact⟨h.1,h.2.1,h.2.2⟩
theorem Zl1(l:List Edge):∃lo:Int,∀e∈l,lo<=e.f:=by
 induction l with
 |nil=>exact⟨0,fun e he=>by cases he⟩
 |cons a l ih=>
  obtain⟨lo,h⟩:=ih;refine⟨min lo a.f,fun e he=>?_⟩;rcases F9.1 he with rfl|he
  ·omega
  ·have:=h e he;omega
theorem Short.mem{D D':List HArc}{must:Int}{need:Bool}{v:Int}{c:List HArc}(h:Short D must need v c)(hD:∀a,a∈D↔a∈D'):Short D' must need v c:=
 h.less (fun a ha=>(hD a).2 ha) (fun a ha=>(hD a).1 (Zbk h.w a ha))
theorem NoWay.mem{D D':List HArc}{must:Int}{need:Bool}(h:NoWay D must need)(hD:∀a,a∈D'->a∈D):NoWay D' must need:=
 fun u c' n1 n2 n3=>h u c' n1 (ZeF hD (Int.le_refl _) n2) n3
section
variable {l:List Edge} {mask must:Int}
theorem Zg0(a:HArc):a∈(Zbp l mask).map Edge.arc↔a∈(l.filter fun e=>Zl mask e.k).map Edge.arc:=by
 rw[<-ZrQ a,mem_arcs,mem_arcs,mem_docQ,Fw]
theorem Zjk{v:Int}{c:List HArc}(h:Short ((l.filter fun e=>Zl mask e.k).map Edge.arc) must (Zae must) v c):(ZaL l mask must).map Edge.arc=c:=by
 have h2:=h.mem (fun a=>(Zg0 (l:=l) (mask:=mask) a).symm);obtain⟨lo,aM⟩:=Zl1 (Zbp l mask);have hk:∀e∈Zbp l mask,1<=e.k∧e.k<=3:=fun e he=>⟨(Zbi (mem_docQ.1 he).2).1,(Zbi (mem_docQ.1 he).2).2.1⟩
 have hF:=ZmQ (ids:=Zb6 [] (Zbp l mask)) (l:=Zbp l mask) (most:=2*(Zb6 [] (Zbp l mask)).length) (ZgZ _ _ List.Pairwise.nil) aM hk (Zfw _ _ List.Pairwise.nil) (fun e he=>(ZlW _ _ _).2 (.inr ⟨e,he,.inl rfl⟩)) (by omega) h2;have hb:ZeQ (Zbp l mask) must=(c.length,v):=hF.1;have hc:¬c.length=0:=fun e=>h.ne (Et e)
 unfold ZaL;rw[hb,if_neg hc];exact hF.2
theorem ZkR(h:NoWay ((l.filter fun e=>Zl mask e.k).map Edge.arc) must (Zae must)):ZaL l mask must=[]:=by
 have h2:=h.mem (fun a ha=>(Zg0 (l:=l) (mask:=mask) a).1 ha);obtain⟨lo,aM⟩:=Zl1 (Zbp l mask);have hk:∀e∈Zbp l mask,1<=e.k∧e.k<=3:=fun e he=>⟨(Zbi (mem_docQ.1 he).2).1,(Zbi (mem_docQ.1 he).2).2.1⟩
 have hb:(ZeQ (Zbp l mask) must).1=0:=ZiN aM hk (Zfw _ _ List.Pairwise.nil) _ h2;unfold ZaL;rw[if_pos hb]
end
def Zaa(l:List Edge)(mask:Int):List Edge:=l.filter fun e=>Zl mask e.k
def Zcp:List Edge->List Int
 |[]=>[]
 |e::l=>e.f::e.t::Zcp l
theorem Zh7(x:Int):∀l:List Edge,x∈Zcp l↔∃e∈l,x=e.f∨x=e.t
 |[]=>by simp[Zcp]
 |e::l=>by
  show x∈e.f::e.t::Zcp l↔_
  rw[F9,F9,Zh7 x l]
  constructor
  ·rintro(h|h|⟨y,hy,h⟩)
   ·exact⟨e,Fc,.inl h⟩
   ·exact⟨e,Fc,.inr h⟩
   ·exact⟨y,E7 _ hy,h⟩
  ·rintro⟨y,hy,h⟩;rcases F9.1 hy with rfl|hy
   ·rcases h with h|h
    ·exact .inl h
    ·exact .inr (.inl h)
   ·exact .inr (.inr ⟨y,hy,h⟩)
theorem Zid:∀l:List Edge,(Zcp l).length=2*l.length
 |[]=>rfl
 |e::l=>by
  show(Zcp l).length+1+1=_
  rw[Zid l];simp only[Fs];omega
def ZaS(D:List Edge):Gv:=ZG (Zcp D)
def ZbE(D:List Edge):Gv:=ZG (D.map Edge.key)
def ZcQ(ids keys:Gv)(N:Nat):List HArc->List Edge->List HArc
 |q,[]=>q
 |q,e::l=>ZcQ ids keys N (Zej N q (toR ids keys e.arc)) l
theorem Zky{ids keys:Gv}{N:Nat}(b:HArc):∀(l:List Edge) (q:List HArc),(∀e∈l,Zs N (toR ids keys e.arc)=true)->(b∈ZcQ ids keys N q l↔b∈q∨∃e∈l,b=toR ids keys e.arc)
 |[],q,_=>by simp[ZcQ]
 |e::l,q,hr=>by
  have h1:b∈Zej N q (toR ids keys e.arc)↔b=toR ids keys e.arc∨b∈q:=by
   unfold Zej;rw[if_pos (hr e Fc)]
   split
   ·rename_i hm
    exact⟨.inr,fun h=>h.elim (fun e=>by rw[e];exact hm) id⟩
   ·exact Zcd _ _ _
  show b∈ZcQ ids keys N (Zej N q (toR ids keys e.arc)) l↔_
  rw[Zky b l _ (fun x hx=>hr x (E7 _ hx)),h1]
  constructor
  ·rintro((h|h)|⟨y,hy,h⟩)
   ·exact .inr ⟨e,Fc,h⟩
   ·exact .inl h
   ·exact .inr ⟨y,E7 _ hy,h⟩
  ·rintro(h|⟨y,hy,h⟩)
   ·exact .inl (.inr h)
   ·rcases F9.1 hy with rfl|hy
    ·exact .inl (.inl h)
    ·exact .inr ⟨y,hy,h⟩
section
variable {D:List Edge}
theorem Zie{e:Edge}(he:e∈D):e.f∈ZaS D∧e.t∈ZaS D:=⟨(Zcc _ _).2 ((Zh7 _ _).2 ⟨e,he,.inl rfl⟩),(Zcc _ _).2 ((Zh7 _ _).2 ⟨e,he,.inr rfl⟩)⟩
theorem ZgT{e:Edge}(he:e∈D):e.key∈ZbE D:=(Zcc _ _).2 (Gc.2 ⟨e,he,rfl⟩)
theorem ZgA(hk:∀e∈D,1<=e.k∧e.k<=3)(hl:D.length<=100000){e:Edge}(he:e∈D):Zs (ZaS D).length (toR (ZaS D) (ZbE D) e.arc)=true:=by
 rw[Z0];have h1:=Zie he;have h2:=ZgT he;have f1:=Zeo (ZaS D) e.f;have f2:=Zeo (ZaS D) e.t;have f3:=Zeo (ZbE D) e.key;have g1:=(Zcz (ZbX (Zcp D)) h1.1).1;have g2:=(Zcz (ZbX (Zcp D)) h1.2).1;have g3:=(Zcz (ZbX (D.map Edge.key)) h2).1;have k:=hk e he
 have fL:(ZbE D).length<=D.length:=by
  have:=ZfJ (D.map Edge.key)
  rwa [F6]at this
 exact⟨f1.1,g1,f2.1,g2,k.1,k.2,f3.1,by
  have g3':rk (ZbE D) e.key<((ZbE D).length:Int):=g3
  show rk (ZbE D) e.key<=1048575
  omega⟩
theorem Zsj(hk:∀e∈D,1<=e.k∧e.k<=3)(hl:D.length<=100000):Rk (D.map Edge.arc) (ZaS D) (ZbE D) (ZcQ (ZaS D) (ZbE D) (ZaS D).length [] D):=by
 refine⟨ZbX _,ZbX _,fun a ha=>?_,fun a ha=>?_,fun b=>?_⟩
 ·obtain⟨e,he,rfl⟩:=Gc.1 ha;exact Zie he
 ·obtain⟨e,he,rfl⟩:=Gc.1 ha;exact ZgT he
 ·rw[Zky b D [] (fun e he=>ZgA hk hl he)]
  constructor
  ·rintro(h|⟨e,he,h⟩)
   ·cases h
   ·exact⟨e.arc,Gc.2 ⟨e,he,rfl⟩,h⟩
  ·rintro⟨a,ha,h⟩;obtain⟨e,he,rfl⟩:=Gc.1 ha;exact .inr ⟨e,he,h⟩
end
theorem Zha(x:Int)(j:Nat)(hj:j=1∨j=2∨j=3):Zj (bits .and .i64 x 14) (j:Int)=Zj x (j:Int):=by
 rw[ZdS x 14 j hj];have:Zj 14 (j:Int)=true:=by rcases hj with rfl|rfl|rfl<;>rfl
 rw[this,Bool.and_true]
theorem Zqq(x k:Int):Zl (bits .and .i64 x 14) k=Zl x k:=by
 unfold Zl
 by_cases h1:1<=k
 ·by_cases h2:k<=3
  ·obtain⟨j,rfl,hj⟩:=Zda h1 h2;rw[Zha x j hj]
  ·rw[Qf h2];simp
 ·rw[Qf h1];simp
theorem ZuM(mask:Int)(e:Edge):Za4 (bits .and .i64 mask 14) e= !Zl mask e.k:=by
 rw[<-Zqq mask e.k];unfold Za4 Zl
 by_cases h1:e.k<1
 ·rw[Qt h1,Qf (show¬1<=e.k by omega)];rfl
 ·rw[Qf h1,Qt (show 1<=e.k by omega)]
  by_cases h2:3<e.k
  ·rw[Qt h2,Qf (show¬e.k<=3 by omega)];rfl
  ·rw[Qf h2,Qt (show e.k<=3 by omega)];simp
theorem Zr6(x:Int)(y:Nat)(hy:y<=1000):bits .and .i64 x (y:Int)=(((x%18446744073709551616).toNat &&& y:Nat):Int):=by
 change IntKind.i64.wrap (((BitVec.ofInt 64 x &&& BitVec.ofInt 64 (y:Int)).toNat:Nat):Int)=_;have h1:(BitVec.ofInt 64 x).toNat=(x%18446744073709551616).toNat:=by rw[BitVec.toNat_ofInt];rfl
 have h2:(BitVec.ofInt 64 (y:Int)).toNat=y:=by rw[BitVec.toNat_ofInt];omega
 rw[BitVec.toNat_and,h1,h2];have h3:(x%18446744073709551616).toNat &&& y<=y:=Nat.and_le_right;exact IntWalk.i64_in _ (by omega)
theorem Zup(must:Int):(bits .and .i64 must 14 != 0)=Zae must:=by
 have h1:=Zha must 1 (.inl rfl);have h2:=Zha must 2 (.inr (.inl rfl));have h3:=Zha must 3 (.inr (.inr rfl));have hn:Zae must=(Zj must ((1:Nat):Int)||(Zj must ((2:Nat):Int)||Zj must ((3:Nat):Int))):=rfl;rw[hn,<-h1,<-h2,<-h3];have h:=Zr6 must 14 (by decide);have h':bits .and .i64 must 14=((((must%18446744073709551616).toNat &&& 14:Nat)):Int):=h;rw[h'];generalize (must%18446744073709551616).toNat=n
 have e1:∀j:Nat,Zj (((n &&& 14:Nat)):Int) (j:Int)=(n &&& 14).testBit j:=by
  intro j;unfold Zj;rw[Nat.testBit_eq_decide_div_mod_eq,decide_eq_decide];rw[show((j:Int).toNat)=j from Int.toNat_natCast j]
  have:(((n &&& 14:Nat):Int)/2 ^ j)%2=(((n &&& 14)/2 ^ j%2:Nat):Int):=by
   norm_cast
  rw[this];omega
 rw[e1,e1,e1]
 by_cases hz:n &&& 14=0
 ·rw[hz];rfl
 ·have hb:((((n &&& 14:Nat)):Int) != 0)=true:=by rw[bne_iff_ne];omega
  rw[hb];refine Eq.symm ?_;refine Classical.byContradiction fun hc=>hz ?_
  have hc:((n &&& 14).testBit 1||((n &&& 14).testBit 2||(n &&& 14).testBit 3))=false:=by simpa using hc
  rw[Bool.or_eq_false_iff,Bool.or_eq_false_iff]at hc;refine Nat.eq_of_testBit_eq fun i=>?_
  rw[Nat.zero_testBit,Nat.testBit_and]
  by_cases hi:i=1∨i=2∨i=3
  ·rw[<-Nat.testBit_and];rcases hi with rfl|rfl|rfl
   ·exact hc.1
   ·exact hc.2.1
   ·exact hc.2.2
  ·have:Nat.testBit 14 i=false:=by
    match i,hi with
    |0,_=>rfl
    |1,h=>exact absurd (.inl rfl) h
    |2,h=>exact absurd (.inr (.inl rfl)) h
    |3,h=>exact absurd (.inr (.inr rfl)) h
    |i+4,_=>
     refine Nat.testBit_lt_two_pow ?_;have:2 ^ (i+4)=2 ^ i*16:=by rw[Nat.pow_add]
     have:=Nat.two_pow_pos i;omega
   rw[this,Bool.and_false]
theorem ZsL{l:List Edge}{mask must:Int}(hl:l.length<=100000){q:List HArc}(ids keys:Gv)(cC:ids=ZaS (Zaa l mask))(cS:keys=ZbE (Zaa l mask))(hq:q=ZcQ ids keys ids.length [] (Zaa l mask))(hs:Zai q)(ks:Int->Int)(ws:Int->List HArc)
  (hk:∀i:Int,0<=i->i<(ids.length:Int)->ks i=Zal (ofA (bits .and .i64 mask 14) q) (bits .and .i64 must 14) i (Zag ids.length q (bits .and .i64 mask 14) i) (Zy ids.length q (bits .and .i64 mask 14) (bits .and .i64 must 14) i) (Zae must))
  (hk2:∀i:Int,0<=i->(ids.length:Int)<=i->ks i=0) (iR:∀i:Int,i<0->ks i=0)
  (hw:∀i:Int,0<=i->i<(ids.length:Int)->ws i=ZN (ofA (bits .and .i64 mask 14) q) (bits .and .i64 must 14) i (Zag ids.length q (bits .and .i64 mask 14) i) (Zy ids.length q (bits .and .i64 mask 14) (bits .and .i64 must 14) i) (ks i).toNat i (Zae must)):
  ZaL l mask must=(ZV ks ws ids.length).map (ZdD ids keys)∧∀a∈ZV ks ws ids.length,Zs ids.length a=true∧a.label<(keys.length:Int):=by
 have kI:∀e∈Zaa l mask,1<=e.k∧e.k<=3:=fun e he=>by
  have:=Zbi (Fw.1 he).2;exact⟨this.1,this.2.1⟩
 have qf:(Zaa l mask).length<=100000:=Nat.le_trans (E3 _ _) hl;have hR:=Zsj kI qf;rw[<-cC,<-cS,<-hq]at hR
 have hr:∀a∈q,Zs ids.length a=true:=fun a ha=>by
  obtain⟨b,hb,rfl⟩:=(hR.mq a).1 ha;obtain⟨e,he,rfl⟩:=Gc.1 hb;rw[cC,cS];exact ZgA kI qf he
 have tu:∀a∈q,a.label<(keys.length:Int):=fun a ha=>by
  obtain⟨b,hb,rfl⟩:=(hR.mq a).1 ha;exact(Zcz hR.sk (hR.ml b hb)).1
 have dD:ofA (bits .and .i64 mask 14) q=q:=by
  unfold ofA;rw[List.filter_eq_self];intro a ha;obtain⟨b,hb,rfl⟩:=(hR.mq a).1 ha;obtain⟨e,he,rfl⟩:=Gc.1 hb;have h1:=(Fw.1 he).2;rw[<-Zqq]at h1;exact(Zbi h1).2.2
 have lq:∀a∈(Zaa l mask).map Edge.arc,isM (bits .and .i64 must 14) a=isM must a:=fun a ha=>by
  obtain⟨e,he,rfl⟩:=Gc.1 ha;obtain⟨j,hj,i9⟩:=Zda (kI e he).1 (kI e he).2
  show Zj _ e.k=Zj _ e.k
  rw[hj,Zha must j i9]
 have iy:∀c:List HArc,(c.map (unR ids keys))=(c.map (ZdD ids keys)).map Edge.arc:=fun c=>by
  rw[List.map_map];exact List.map_congr_left fun _ _=>rfl
 rcases Zjq hr hs (bits .and .i64 mask 14) (bits .and .i64 must 14) (Zae must) ks ws hk hk2 iR hw with ⟨e,h⟩|⟨v,h0,h1,h⟩
 ·rw[dD]at h;rw[e];exact⟨ZkR ((hR.none h).must lq),fun a ha=>by cases ha⟩
 ·rw[dD]at h;refine⟨?_,fun a ha=>⟨hr a (Zbk h.w a ha),tu a (Zbk h.w a ha)⟩⟩;have h2:=Zjk ((hR.short h0 h1 h).must lq);rw[iy]at h2;exact ZmU h2
theorem ZjN(l:List Edge)(mask must:Int)(hl:l.length<=100000):(ZaL l mask must=[]∧NoWay ((Zaa l mask).map Edge.arc) must (Zae must))∨∃v,Short ((Zaa l mask).map Edge.arc) must (Zae must) v ((ZaL l mask must).map Edge.arc):=by
 have kI:∀e∈Zaa l mask,1<=e.k∧e.k<=3:=fun e he=>by
  have:=Zbi (Fw.1 he).2;exact⟨this.1,this.2.1⟩
 have qf:(Zaa l mask).length<=100000:=Nat.le_trans (E3 _ _) hl;have hR:=Zsj kI qf;obtain⟨q,hq⟩:=Qe ((ZcQ (ZaS (Zaa l mask)) (ZbE (Zaa l mask)) (ZaS (Zaa l mask)).length [] (Zaa l mask)));rw[hq]at hR
 have hs:Zai q:=by
  rw[<-hq]
  have:∀(m:List Edge) (q:List HArc),Zai q->Zai (ZcQ (ZaS (Zaa l mask)) (ZbE (Zaa l mask)) (ZaS (Zaa l mask)).length q m):=by
   intro m
   induction m with
   |nil=>exact fun q h=>h
   |cons e m ih=>
    intro q h;refine ih _ ?_;unfold Zej
    split
    ·split
     ·exact h
     ·exact ZdW _ _ h
    ·exact h
  exact this _ _ List.Pairwise.nil
 have hr:∀a∈q,Zs (ZaS (Zaa l mask)).length a=true:=fun a ha=>by
  obtain⟨b,hb,rfl⟩:=(hR.mq a).1 ha;obtain⟨e,he,rfl⟩:=Gc.1 hb;exact ZgA kI qf he
 have dD:ofA 14 q=q:=by
  unfold ofA;rw[List.filter_eq_self];intro a ha;obtain⟨b,hb,rfl⟩:=(hR.mq a).1 ha;obtain⟨e,he,rfl⟩:=Gc.1 hb;obtain⟨j,hj,i9⟩:=Zda (kI e he).1 (kI e he).2
  show Zj 14 e.k=true
  rw[hj];rcases i9 with rfl|rfl|rfl<;>rfl
 have hb:=Zjq hr hs 14 must (Zae must) (fun i=>if 0<=i∧i<((ZaS (Zaa l mask)).length:Int) then Zal (ofA 14 q) must i (Zag (ZaS (Zaa l mask)).length q 14 i) (Zy (ZaS (Zaa l mask)).length q 14 must i) (Zae must) else 0)
  (fun i=>ZN (ofA 14 q) must i (Zag (ZaS (Zaa l mask)).length q 14 i) (Zy (ZaS (Zaa l mask)).length q 14 must i) (if 0<=i∧i<((ZaS (Zaa l mask)).length:Int) then Zal (ofA 14 q) must i (Zag (ZaS (Zaa l mask)).length q 14 i) (Zy (ZaS (Zaa l mask)).length q 14 must i) (Zae must) else 0).toNat i (Zae must))
  (fun i h0 h1=>if_pos ⟨h0,h1⟩) (fun i _ h1=>if_neg (fun e=>by omega)) (fun i h1=>if_neg (fun e=>by omega)) (fun i _ _=>rfl)
 rw[dD]at hb;rcases hb with ⟨_,h⟩|⟨v,h0,h1,h⟩
 ·have h3:=hR.none h;exact .inl ⟨ZkR h3,h3⟩
 ·have h3:=hR.short h0 h1 h;rw[<-Zjk h3]at h3;exact .inr ⟨_,h3⟩
/- Closed walks:the arc of an edge. -/
theorem ZlC(x:Int):∀{s:Gv},s.Pairwise (·<·)->((s.countP (·<x):Nat):Int)=rk s x
 |[],_=>rfl
 |a::s,h=>by
  rw[Fd]at h;unfold rk;rw[Fi]
  by_cases ha:a<x
  ·rw[if_pos ha,if_pos (by simpa using ha),Int.natCast_add,ZlC x h.2];rfl
  ·rw[if_neg ha,if_neg (by simpa using ha),Nat.add_zero]
   have:s.countP (·<x)=0:=by
    rw[List.countP_eq_zero];intro b hb;have:=h.1 b hb;simp;omega
   rw[this];rfl
theorem Zuv(F:Gt)(w:Gy)(A:OA)(c:Nat)(l:Gv)(x:Int)(h:Ints F w A l)(hne:l≠[])(hs:l.Pairwise (·<·))(hl:l.length<=1000000):
  Calls Tryz.prog 141 #[.slice A l.length c,Qi x] w fun e w'=>∃b,e= .returned (.tuple #[Qi (rk l x),.bool b])∧Upd No w w':=by
 obtain⟨b,o,rfl,hc⟩:=h.cells_ hne;refine Calls.mono (AnyG.slices_BinarySearch_int binI_lay b o l.length c l x w (Nat.le_refl _) (by omega) hc (by rw[Fj];exact hs.imp fun {a b} h=>Int.le_of_lt h)) ?_;rintro e w' ⟨rfl,q,rfl⟩;rw[Fj,ZlC x hs];exact⟨_,rfl,(Gg _ _).drewN q⟩
theorem Zwx(F1 F2:Gt)(w:Gy)(A B:OA)(ca cb:Nat)(ids keys:Gv)(hA:Ints F1 w A ids)(hB:Ints F2 w B keys)(mO:ids.Pairwise (·<·))(mt:keys.Pairwise (·<·))(rb:ids≠[])(DB:keys≠[])(co:ids.length<=1000000)(aN:keys.length<=1000000)(e:Edge):
  Calls Tryz.prog 109 #[.agg #[.slice A ids.length ca,.slice B keys.length cb],.agg e.cells.toArray] w fun x w'=>x= .returned (.agg (toR ids keys ⟨e.f,e.t,e.k,e.key⟩).cells.toArray)∧Upd No w w':=by
 obtain⟨ef,et,ek,ey⟩:=e;obtain⟨wb,ah⟩:=Qe (((w.alloc (.cells #[.slice A ids.length ca,.slice B keys.length cb] 120)).alloc (.cells #[Qi ef,Qi et,Qi ek,Qi ey] 94)).alloc (.cells #[Qi 0,Qi 0,Qi 0,Qi 0] 132));have u0:Upd No w wb:=by rw[<-ah];exact(((Gg No w).alloc _).alloc _).alloc _
 have bN:Blk wb w.heap.size 120 [.slice A ids.length ca,.slice B keys.length cb]:=by rw[<-ah];exact((Gh w _ _).alloc _).alloc _
 have bE:Blk wb (w.heap.size+1) 94 [Qi ef,Qi et,Qi ek,Qi ey]:=by
  rw[<-ah];have:=(Gh (w.alloc (.cells #[.slice A ids.length ca,.slice B keys.length cb] 120)) 94 [Qi ef,Qi et,Qi ek,Qi ey]).alloc (.cells #[Qi 0,Qi 0,Qi 0,Qi 0] 132);simpa only[Ge]using this
 have bR:Blk wb (w.heap.size+2) 132 [Qi 0,Qi 0,Qi 0,Qi 0]:=by
  rw[<-ah];have:=Gh ((w.alloc (.cells #[.slice A ids.length ca,.slice B keys.length cb] 120)).alloc (.cells #[Qi ef,Qi et,Qi ek,Qi ey] 94)) 132 [Qi 0,Qi 0,Qi 0,Qi 0];simpa only[Ge]using this
 have n0:∀W,Upd No wb W->W.cell? ⟨w.heap.size,0,none⟩=some (.slice A ids.length ca):=fun W u=>by have:=(bN.upd u id).cell 0;simpa using this
 have n1:∀W,Upd No wb W->W.cell? ⟨w.heap.size,1,none⟩=some (.slice B keys.length cb):=fun W u=>by have:=(bN.upd u id).cell 1;simpa using this
 have e0:∀W,Upd No wb W->W.cell? ⟨w.heap.size+1,0,none⟩=some (Qi ef):=fun W u=>by have:=(bE.upd u id).cell 0;simpa using this
 have e1:∀W,Upd No wb W->W.cell? ⟨w.heap.size+1,1,none⟩=some (Qi et):=fun W u=>by have:=(bE.upd u id).cell 1;simpa using this
 have e2:∀W,Upd No wb W->W.cell? ⟨w.heap.size+1,2,none⟩=some (Qi ek):=fun W u=>by have:=(bE.upd u id).cell 2;simpa using this
 have e3:∀W,Upd No wb W->W.cell? ⟨w.heap.size+1,3,none⟩=some (Qi ey):=fun W u=>by have:=(bE.upd u id).cell 3;simpa using this
 have HA:=Qh (fun(W:Gy) (u:Upd No wb W) (x:Int)=>Zuv F1 W A ca ids x (hA.upd (u0.trans u) Qo) rb mO co);have HB:=Qh (fun(W:Gy) (u:Upd No wb W) (x:Int)=>Zuv F2 W B cb keys x (hB.upd (u0.trans u) Qo) DB mt aN);have U0:=Qh u0;have BR:=Qh bR;have hr:Upd No wb wb:=Gg _ _;unfold toR HArc.cells Edge.cells;simp only;clear hA hB bN bE bR u0;go_enter Tryz.func109,Tryz.ntmps109;go_wp2_with fail;refine(HA.out wb (Gg _ _) ef).mono ?_;rintro e w1 ⟨b1,rfl,hu1⟩;go_wp2_with fail;refine(HA.out w1 hu1 et).mono ?_;rintro e w2 ⟨b2,rfl,gM⟩;have hu2:=hu1.trans gM;clear gM;go_wp2_with fail;refine(HB.out w2 hu2 ey).mono ?_;rintro e w3 ⟨b3,rfl,kx⟩;have hu3:=hu2.trans kx;clear kx;have iV:=Qh (BR.out.upd hu3 id);have U3:=Qh hu3;have hb3:=iV.out;obtain⟨r0,r1,r2,r3⟩:=hb3.c4;obtain⟨f0,f1,f2,f3⟩:=hb3.f4;clear hb3;go_wp2;have b4:=((((iV.out).set_ 0 (Qi (rk ids ef))).set_ 1 (Qi (rk ids et))).set_ 2 (Qi ek)).set_ 3 (Qi (rk keys ey));simp only[List.set_cons_zero,List.set_cons_succ]at b4;have US:=((((Gg (One (w.heap.size+2)) w3).setOne 0 (Qi (rk ids ef))).setOne 1 (Qi (rk ids et))).setOne 2 (Qi ek)).setOne 3 (Qi (rk keys ey));refine bodyPost_ret (results_cell_row (p:=4) rfl _ _ _ _ _ _ _ rfl b4 Tryz.underlying132 rfl (by kernel_rfl)) rfl ⟨rfl,?_⟩
 exact(U0.out.trans U3.out).then_ US fun k e=> .inr (by unfold One at e;omega)
/- Closed walks:the numbers of some edges. -/
theorem ZjA{P:Gw}(w:Gy)(g i:Nat)(t ty:Gx)(old:Gj)(v:Gz)(hg:w.heap[g]? =some (.cells old t (0,0)))(hi:(P.info? ty).map (·.size)=some 1)
  (ho:i<old.size) (h1:v.oneCell'=true):
  (storeVar ty ⟨g,i,none⟩ v).run P w= .ok () (w.setCell ⟨g,i,none⟩ v):=by
 have ag:∀m,(store ⟨g,i,none⟩ v m).run P w= .ok () (w.setCell ⟨g,i,none⟩ v):=fun m=>by
  rw[run_store P w _ v m h1];simp[World.cell?,World.frozen?,hg,ho]
 have kK:(⟨g,i,none⟩:Addr).add 0=⟨g,i,none⟩:=by unfold Addr.add;simp
 have De:(storeCells ⟨g,i,none⟩ [v] 0).run P w= .ok () (w.setCell ⟨g,i,none⟩ v):=by
  simp only[storeCells,Sem.run_bind,kK,ag,Result.andThen_ok];rfl
 cases hq:P.info? ty with
 |none=>simp[hq]at hi
 |some j=>
  have hs:j.size=1:=by simpa[hq]using hi
  cases v<;>first|(simp[Value.oneCell']at h1;done)|simp[storeVar,sizeOf,typeInfo,hq,hs,Value.cells,De]
theorem ZsJ{P:Gw}{o:Oper}{a:Act}{W:Gy}{K:Act->Gy->Prop}{Q:Exit->Act->Gy->Prop}{ty:Gx}{x y:Operand}(ho:o.op= .store ty x y)
  {g i:Nat} {t:Gx} {old:Gl} {v:Gz} (hx:a.eval x= .pointer (some ⟨g,i,none⟩)) (hy:a.eval y=v) (hb:Blk W g t old) (hi:(P.info? ty).map (·.size)=some 1) (hl:i<old.length) (h1:v.oneCell'=true)
  (h:∀w',Blk w' g t (old.set i v)->Upd (One g) W w'->K (a.put o.dst undef) w'):o.wp P a W K Q:=by
 unfold Oper.wp execOp;simp only[ho,hx,hy,Instr.storeAt,Instr.sureAddr,Sem.run_bind,Sem.run_pure,Result.andThen_ok,ZjA W g i t ty old.toArray v hb hi (by simpa using hl) h1];exact h _ (hb.set_ i v) ((Gg (One g) W).setOne i v)
theorem ZaP{P:Gw}{ops:Array Oper}{o:Oper}{a:Act}{W:Gy}{K:Act->Gy->Prop}{Q:Exit->Act->Gy->Prop}{E:Prop}(cw:o.guard=none){ty:Gx}{x y:Operand}(ho:o.op= .store ty x y)
  {g i:Nat} {t:Gx} {old:Gl} {v:Gz} (hx:a.eval x= .pointer (some ⟨g,i,none⟩)) (hy:a.eval y=v) (hb:Blk W g t old) (hi:(P.info? ty).map (·.size)=some 1) (hl:i<old.length) (h1:v.oneCell'=true)
  (h:∀w',Blk w' g t (old.set i v)->Upd (One g) W w'->K (a.put o.dst undef) w'):if Region.wanted o (yielded ops a.tmps)=true then Oper.wp P o a W K Q else E:=by
 rw[if_pos (by simp[Region.wanted,cw])];exact ZsJ ho hx hy hb hi hl h1 h
theorem Zb{A:OA}{n m c d i:Nat}(h:Own (.slice A n c) i):Own (.slice A m d) i:=by
 cases A with
 |none=>cases h
 |some a=>exact h
theorem Zhg{W:Gy}{cs:Gl}{e:Gx}{n m:Nat}(hn:n=W.heap.size)(hm:cs.length=m):Src (W.alloc (.cells cs.toArray e)) (some ⟨n,0,none⟩) m 1 cs:=by
 subst hn;exact⟨by omega,fun _=>⟨_,rfl,fun j v hj=>Zbn j v hj⟩⟩
theorem ZuE(F:Gt)(w:Gy)(A:OA)(c:Nat)(l:List Edge)(h:Walk F w A l)(hl:l.length<=1000000):
  Calls Tryz.prog 69 #[.slice A l.length c] w fun e w'=>∃A1 c1 A2 c2,e= .returned (.agg #[.slice A1 (ZaS l).length c1,.slice A2 (ZbE l).length c2])∧Ints (fun i=>w.heap.size<=i) w' A1 (ZaS l)∧Ints (fun i=>w.heap.size<=i) w' A2 (ZbE l)∧Upd No w w':=by
 have HA:=Qh h;have HL:=Qh (show(Zcp l).length=2*l.length from Zid l);clear h;go_enter Tryz.func69,Tryz.ntmps69;go_wp2
 go_loopg [8] l.length (fun gk i wr=>∃(k:Nat) (A1:OA) (c1:Nat) (xs:Gv) (A2:OA) (c2:Nat) (ys:Gv),k+gk=l.length∧i= Qi k∧Hid (xs++Zcp (l.drop k)=Zcp l)∧Hid (ys++(l.drop k).map Edge.key=l.map Edge.key)∧xs.length=2*k∧ys.length=k∧
  Blk wr (w.heap.size+1) 120 [.slice A1 xs.length c1,.slice A2 ys.length c2]∧Blk wr w.heap.size 120 [.slice none 0 0,.slice none 0 0]∧
  wr.ownsRow (w.heap.size+2) 3 1 (.slice A1 xs.length c1) xs.length (xs.map (Value.int .i64))∧wr.ownsRow (w.heap.size+2) 3 1 (.slice A2 ys.length c2) ys.length (ys.map (Value.int .i64))∧(∀i,Own (.slice A1 0 0) i->¬Own (.slice A2 0 0) i)∧Upd No w wr)
 case atStart=>
  refine⟨0,none,0,[],none,0,[],by omega,rfl,Qh rfl,Qh rfl,rfl,rfl,?_,?_,Gf _ _ _ _,Gf _ _ _ _,?_,?_⟩
  ·simpa using Gh (w.alloc (.cells #[.slice none 0 0,.slice none 0 0] 120)) 120 [.slice none 0 0,.slice none 0 0]
  ·exact(Gh w 120 [.slice none 0 0,.slice none 0 0]).alloc _
  ·intro i e;exact(by cases e)
  ·exact((Gg No w).alloc _).alloc _
 case round=>
  obtain⟨k,A1,c1,xs,A2,c2,ys,aK,rfl,hx,hy,hxl,fC,bN,bR,aW,bi,hd,hu⟩:=hrel
  by_cases hlt:k<l.length
  ·obtain⟨ax,rfl,q0,q1,q2,q3⟩:=(HA.out.upd hu Qo).at_ hlt;obtain⟨x,dE⟩:=Qe (l[k]);have db:=Ev hlt;rw[dE]at q0 q1 q2 q3 db;have HX:=Qh (show(xs++[x.f,x.t])++Zcp (l.drop (k+1))=Zcp l by rw[<-hx.out,db];simp[Zcp]);have HY:=Qh (show(ys++[x.key])++(l.drop (k+1)).map Edge.key=l.map Edge.key by rw[<-hy.out,db];simp);have i1:(0:Int)<=(k:Int):=Qn _;have i2:(k:Int)<(l.length:Int):=by omega
   obtain⟨wx,aJ⟩:=Qe (wr.alloc (.cells #[Qi x.f,Qi x.t,Qi x.k,Qi x.key] 94));have ux:Upd No wr wx:=by rw[<-aJ];exact(Gg No wr).alloc _
   have bo:Blk wx wr.heap.size 94 [Qi x.f,Qi x.t,Qi x.k,Qi x.key]:=by rw[<-aJ];exact Gh wr _ _
   have yG:wx.heap.size=wr.heap.size+1:=by rw[<-aJ];simp
   have aX:=Qh (hu.trans ux);have sF:=bN.lt;have bNx:=bN.upd ux id;have uI:=Qh (bR.upd ux id);obtain⟨g0,g1,g2,g3⟩:=bo.c4;obtain⟨c0,c1'⟩:=bNx.c2;have aU:=Qh (fun i e=>aW.lt i e);have bU:=Qh (fun i e=>bi.lt i e);have dW:=Qh (Za aW ux Qo);have d7:=Qh (Za bi ux Qo);have HD:=Qh hd;have BO:=Qh bo;have BN:=Qh bNx;have ie:=Qh hxl;have nb:=Qh fC;have ne1:¬w.heap.size+1=wr.heap.size:=by omega
   have ne2:¬wr.heap.size=w.heap.size+1:=by omega
   clear bN bR aW bi hd ux bo bNx db dE hx hy hxl fC
   go_wp2_with (at_builtin;(first
    |(refine Zgk rfl rfl ZbW (v:= .slice A1 xs.length c1) (n:=xs.length) (m:=2) (xs:=xs.map (Value.int .i64)) (news:=[Qi x.f,Qi x.t]) rfl rfl (Za dW.out ((Gg No _).alloc _) Qo) (Zhg yG.symm rfl) (by simp[Value.oneCell']) (by have:=ie.out;omega) (by have:=ie.out;omega) (by simp;omega) ?_
      intro v4 w4 ar hu4 cQ;obtain⟨A4,c4,rfl⟩:=ZaQ ar;have U4:Upd (Own (.slice A1 xs.length c1)) wx w4:=((Gg _ wx).alloc _).trans hu4;have rF:=U4.size;have bN4:=BN.out.upd U4 (fun e=>by have:=(aU.out _ e).1;omega);have bo4:=BO.out.upd U4 (fun e=>by have:=(aU.out _ e).2;omega);have nn:=Qh (uI.out.upd U4 (fun e=>by have:=(aU.out _ e).1;omega));have dy:=Qh (Za d7.out U4 (fun i e e2=>HD.out i (Zb e2) (Zb e)));have vx:=Qh (aX.out.then_ U4 (fun i e=> .inr (by have:=(aU.out i e).1;omega)))
      have iL:=Qh (fun i (e:Own (.slice A4 (xs.length+2) c4) i)=>(show w.heap.size+2<=i∧i<w4.heap.size∧¬Own (.slice A2 0 0) i from⟨(ar.lt i e).1,(ar.lt i e).2,fun e2=>by
       rcases cQ with e3|⟨j,e3,e4⟩
       ·exact HD.out i (Zb (n:=xs.length) (c:=c1) (by unfold Own at e ⊢;rw[<-e3];exact e)) e2
       ·have h5:=(bU.out i (Zb e2)).2;have:i=j:=by unfold Own at e;rw[e3]at e;injection e with e;exact e.symm
        simp at e4;omega⟩))
      obtain⟨k0,k1⟩:=bN4.c2;have k3:=bo4.cell 3;have fr0:=bN4.free 0;simp only[Qz,Qs]at k3;have sz:=Qh bN4;have kB:=Qh ar;clear bN4 bo4 U4 hu4 cQ ar c0 c1' g0 g1 g2 g3 q0 q1 q2 q3)
    |(refine Zgk rfl rfl ZbW (v:= .slice A2 ys.length c2) (n:=ys.length) (m:=1) (xs:=ys.map (Value.int .i64)) (news:=[Qi x.key]) rfl rfl (Za (Za dy.out ((Gg (One (w.heap.size+1)) w4).setOne 0 _) (fun i e e2=>by have:=(bU.out i (Zb e)).1;unfold One at e2;omega)) ((Gg No _).alloc _) Qo) (Zhg (by simp) rfl) (by simp[Value.oneCell']) (by have:=nb.out;omega) (by have:=nb.out;omega) (by simp;omega) ?_
      intro v6 w6 av hu6 dC;obtain⟨A6,c6,rfl⟩:=ZaQ av;have U5:=(Gg (One (w.heap.size+1)) w4).setOne 0 (.slice A4 (xs.length+2) c4);have U6:Upd (Own (.slice A2 ys.length c2)) (w4.setCell ⟨w.heap.size+1,0,none⟩ (.slice A4 (xs.length+2) c4)) w6:=((Gg _ _).alloc _).trans hu6;have vX:=U6.size;simp only[World.size_setCell]at vX;have bN6:=(sz.out.set_ 0 (.slice A4 (xs.length+2) c4)).upd U6 (fun e=>by have:=(bU.out _ e).1;omega);have mC:=Qh ((nn.out.upd U5 (by unfold One;omega)).upd U6 (fun e=>by have:=(bU.out _ e).1;omega));have uj:=Qh (Za (Za kB.out U5 (fun i e e2=>by have:=(iL.out i e).1;unfold One at e2;omega)) U6 (fun i e e2=>(iL.out i e).2.2 (Zb e2)));have t7:=Qh ((vx.out.then_ U5 (fun i e=> .inr (by unfold One at e;omega))).then_ U6 (fun i e=> .inr (by have:=(bU.out i e).1;omega)))
      have dr:=Qh (fun i (e:Own (.slice A6 (ys.length+1) c6) i)=>(show w.heap.size+2<=i∧¬Own (.slice A4 0 0) i from⟨(av.lt i e).1,fun e2=>by
       rcases dC with e3|⟨j,e3,e4⟩
       ·exact(iL.out i (Zb e2)).2.2 (Zb (n:=ys.length) (c:=c2) (by unfold Own at e ⊢;rw[<-e3];exact e))
       ·have h5:=(iL.out i (Zb e2)).2.1;have:i=j:=by unfold Own at e;rw[e3]at e;injection e with e;exact e.symm
        simp at e4;omega⟩))
      have k0:=bN6.cell 0;have k1:=bN6.cell 1;have fr1:=bN6.free 1;simp only[List.set_cons_zero,Qz,Qs]at k0 k1;have uY:=Qh bN6;have ec:=Qh av;clear bN6 U6 U5 hu6 dC av)))
   go_roundg (gk-1)
   case measure=>omega
   case rel=>
    have U7:=(Gg (One (w.heap.size+1)) w6).setOne 1 (.slice A6 (ys.length+1) c6);have b7:=uY.out.set_ 1 (.slice A6 (ys.length+1) c6);simp only[List.set_cons_zero,List.set_cons_succ]at b7;refine⟨k+1,A4,c4,xs++[x.f,x.t],A6,c6,ys++[x.key],by omega,by go_num,HX,HY,by have:=ie.out;simp;omega,by have:=nb.out;simp;omega,by simpa using b7,mC.out.upd U7 (by unfold One;omega),?_,?_,fun i e e2=>(dr.out i (Zb e2)).2 (Zb e),t7.out.then_ U7 (fun i e=> .inr (by unfold One at e;omega))⟩
    ·have:=Za uj.out U7 (fun i e e2=>by have:=(iL.out i e).1;unfold One at e2;omega)
     simpa using this
    ·have:=Za ec.out U7 (fun i e e2=>by have:=(dr.out i e).1;unfold One at e2;omega)
     simpa using this
  ·obtain rfl:k=l.length:=by omega
   have aV:xs=Zcp l:=by have:=hx.out;rw[Fq]at this;simpa[Zcp]using this
   have gs:ys=l.map Edge.key:=by have:=hy.out;rw[Fq]at this;simpa using this
   have y8:ZG xs=ZaS l:=by rw[aV];rfl
   have Ab:ZG ys=ZbE l:=by rw[gs];rfl
   have oj:=Qh y8;have oH:=Qh Ab;have ie:=Qh hxl;have nb:=Qh fC;have HN:=Qh bN;have HR:=Qh bR;have dW:=Qh (Za aW ((Gg No wr).drew) Qo);have d7:=Qh (Za bi ((Gg No wr).drew) Qo);have aU:=Qh (fun i (e:Own (.slice A1 0 0) i)=>(aW.lt i (Zb e)).1);have bU:=Qh (fun i (e:Own (.slice A2 0 0) i)=>(bi.lt i (Zb e)).1);have HD:=Qh hd;have HU:=Qh hu;obtain⟨c0,c1'⟩:=bN.c2;clear aV gs y8 Ab bN bR aW bi hd hx hy hu hxl fC;go_wp2;refine wpS (fun w'=>Upd (fun i=>w.heap.size<=i) w w') ?_ fun jH=>?_
   ·(first|exact((HU.out.mono (fun _ _ e=>e.elim)).drew)|exact jH|exact jH.trans hq)
   refine wpK 0 rfl ?_;refine wpK 3 rfl ?_;refine wpR [1,4] ?_;refine wpC rfl (fun K hK=>?_) ?_
   ·go_simp;refine hK.out _ _ ?_ fun jH=>?_
    ·(first|exact((HU.out.mono (fun _ _ e=>e.elim)).drew)|exact jH|exact jH.trans hq)
    try simp only[Qa]
    refine wpR [2,4] ?_;refine wpC rfl (fun K hK=>?_) ?_
    ·go_simp
     (first
    |(go_at_call 106;refine(Zfx wr.drew _ A1 c1 xs dW.out (by have:=ie.out;omega)).mono ?_;rintro e w4 ⟨rfl,cU,hu4⟩;have fZ:=Qh ((show Blk wr.drew _ _ _ from HN.out).upd hu4 (fun e=>by have:=aU.out _ (Zb e);omega));have lD:=Qh ((show Blk wr.drew _ _ _ from HR.out).upd hu4 (fun e=>by have:=aU.out _ (Zb e);omega));have ej:=Qh cU;have dy:=Qh (Za d7.out hu4 (fun i e e2=>HD.out i (Zb e2) (Zb e)));have hq:Upd (fun i=>w.heap.size<=i) wr.drew w4:=hu4.mono (fun i _ e=>by have:=aU.out _ (Zb e);omega);have c41:=fZ.out.cell 1;simp only[Qz,Qs]at c41))
     try (go_wp2_with fail)
     refine hK.out _ _ ?_ fun jH=>?_
     ·(first|exact((HU.out.mono (fun _ _ e=>e.elim)).drew)|exact jH|exact jH.trans hq)
     try simp only[Qa]
     refine wpZ 4 rfl fun K hK=>?_;go_simp;refine hK.out _ _ ?_ fun jH=>?_
     ·(first|exact((HU.out.mono (fun _ _ e=>e.elim)).drew)|exact jH|exact jH.trans hq)
     try simp only[Qa]
     refine wpK 6 rfl ?_;refine wpZ 5 rfl fun K hK=>?_;go_simp
     (first
    |(go_at_call 106;refine(Zfx w4 _ A2 c2 ys dy.out (by have:=nb.out;omega)).mono ?_;rintro e w5 ⟨rfl,iB,hu5⟩;have jC:=Qh (fZ.out.upd hu5 (fun e=>by have:=bU.out _ (Zb e);omega));have iT:=Qh (lD.out.upd hu5 (fun e=>by have:=bU.out _ (Zb e);omega));have dP:=Qh iB;have dL:=Qh (Za ej.out hu5 (fun i e e2=>HD.out i (Zb e) (Zb e2)));have hq:Upd (fun i=>w.heap.size<=i) w4 w5:=hu5.mono (fun i _ e=>by have:=bU.out _ (Zb e);omega)))
     try (go_wp2_with fail)
     refine hK.out _ _ ?_ fun jH=>?_
     ·(first|exact((HU.out.mono (fun _ _ e=>e.elim)).drew)|exact jH|exact jH.trans hq)
     try simp only[Qa]
     refine wpZ 7 rfl fun K hK=>?_
     (first
    |(refine ZaP rfl rfl (g:=w.heap.size+1) (i:=0) (v:= .slice A1 (ZG xs).length c1) rfl rfl jC.out (by kernel_rfl) (by simp) rfl ?_;intro w6 hb6 hu6;have gT:=Qh hb6;have gf:=Qh (iT.out.upd hu6 (by unfold One;omega));have cL:=Qh (Za dL.out hu6 (fun i e e2=>by have:=aU.out _ (Zb e);unfold One at e2;omega));have cM:=Qh (Za dP.out hu6 (fun i e e2=>by have:=bU.out _ (Zb e);unfold One at e2;omega));have hq:Upd (fun i=>w.heap.size<=i) w5 w6:=hu6.mono (fun i _ e=>by unfold One at e;omega))
    |(refine ZaP rfl rfl (g:=w.heap.size+1) (i:=1) (v:= .slice A2 (ZG ys).length c2) rfl rfl gT.out (by kernel_rfl) (by simp) rfl ?_;intro w7 fh hu7;have ij:=Qh fh;have fl:=Qh (gf.out.upd hu7 (by unfold One;omega));have fD:=Qh (Za cL.out hu7 (fun i e e2=>by have:=aU.out _ (Zb e);unfold One at e2;omega));have fj:=Qh (Za cM.out hu7 (fun i e e2=>by have:=bU.out _ (Zb e);unfold One at e2;omega));have hq:Upd (fun i=>w.heap.size<=i) w6 w7:=hu7.mono (fun i _ e=>by unfold One at e;omega)))
     refine hK.out _ _ ?_ fun jH=>?_
     ·(first|exact((HU.out.mono (fun _ _ e=>e.elim)).drew)|exact jH|exact jH.trans hq)
     try simp only[Qa]
     refine wpK 8 rfl ?_;refine wpZ 9 rfl fun K hK=>?_
     (first
    |(refine ZaP rfl rfl (g:=w.heap.size+1) (i:=0) (v:= .slice A1 (ZG xs).length c1) rfl rfl jC.out (by kernel_rfl) (by simp) rfl ?_;intro w6 hb6 hu6;have gT:=Qh hb6;have gf:=Qh (iT.out.upd hu6 (by unfold One;omega));have cL:=Qh (Za dL.out hu6 (fun i e e2=>by have:=aU.out _ (Zb e);unfold One at e2;omega));have cM:=Qh (Za dP.out hu6 (fun i e e2=>by have:=bU.out _ (Zb e);unfold One at e2;omega));have hq:Upd (fun i=>w.heap.size<=i) w5 w6:=hu6.mono (fun i _ e=>by unfold One at e;omega))
    |(refine ZaP rfl rfl (g:=w.heap.size+1) (i:=1) (v:= .slice A2 (ZG ys).length c2) rfl rfl gT.out (by kernel_rfl) (by simp) rfl ?_;intro w7 fh hu7;have ij:=Qh fh;have fl:=Qh (gf.out.upd hu7 (by unfold One;omega));have fD:=Qh (Za cL.out hu7 (fun i e e2=>by have:=aU.out _ (Zb e);unfold One at e2;omega));have fj:=Qh (Za cM.out hu7 (fun i e e2=>by have:=bU.out _ (Zb e);unfold One at e2;omega));have hq:Upd (fun i=>w.heap.size<=i) w6 w7:=hu7.mono (fun i _ e=>by unfold One at e;omega)))
     refine hK.out _ _ ?_ fun jH=>?_
     ·(first|exact((HU.out.mono (fun _ _ e=>e.elim)).drew)|exact jH|exact jH.trans hq)
     try simp only[Qa]
     refine wpD (Gd ?_);have m0:=ij.out.cell 0;have m1:=ij.out.cell 1;have s0:=fl.out.cell 0;have s1:=fl.out.cell 1;obtain⟨t0,t1⟩:=fl.out.f2;simp only[List.set_cons_zero,List.set_cons_succ,Qz,Qs]at m0 m1 s0 s1;have HZ:=Qh jH;clear jH hq hb6 fh cU iB hu4 hu5 hu6 hu7 c0 c1' c41 fZ jC gT ij lD iT gf ej dy dL dP cL cM;go_wp2;have b9:=(fl.out.set_ 0 (.slice A1 (ZG xs).length c1)).set_ 1 (.slice A2 (ZG ys).length c2);simp only[List.set_cons_zero,List.set_cons_succ]at b9;have US:=((Gg (One w.heap.size) w7).setOne 0 (.slice A1 (ZG xs).length c1)).setOne 1 (.slice A2 (ZG ys).length c2);refine bodyPost_ret (results_cell_row (p:=2) rfl _ _ _ _ _ _ _ rfl b9 Tryz.underlying120 rfl (by kernel_rfl)) rfl ⟨A1,c1,A2,c2,by rw[<-oj.out,<-oH.out],?_,?_,?_⟩
     ·rw[<-oj.out];exact(Ints.of_owned (Za fD.out US (fun i e e2=>by have:=aU.out _ (Zb e);unfold One at e2;omega))).weak (fun i _ h=>by omega)
     ·rw[<-oH.out];exact(Ints.of_owned (Za fj.out US (fun i e e2=>by have:=bU.out _ (Zb e);unfold One at e2;omega))).weak (fun i _ h=>by omega)
     ·exact((Gg No w).then_ (HZ.out.then_ US (fun i e=> .inr (by unfold One at e;omega))) (fun i e=> .inr e))
    refine wpC rfl (fun K hK=>?_) AllReadyH.nil;go_simp;refine hK.out _ _ ?_ fun jH=>?_
    ·(first|exact((HU.out.mono (fun _ _ e=>e.elim)).drew)|exact jH|exact jH.trans hq)
    try simp only[Qa]
    refine wpZ 2 rfl fun K hK=>?_;go_simp
    (first
   |(go_at_call 106;refine(Zfx wr.drew _ A1 c1 xs dW.out (by have:=ie.out;omega)).mono ?_;rintro e w4 ⟨rfl,cU,hu4⟩;have fZ:=Qh ((show Blk wr.drew _ _ _ from HN.out).upd hu4 (fun e=>by have:=aU.out _ (Zb e);omega));have lD:=Qh ((show Blk wr.drew _ _ _ from HR.out).upd hu4 (fun e=>by have:=aU.out _ (Zb e);omega));have ej:=Qh cU;have dy:=Qh (Za d7.out hu4 (fun i e e2=>HD.out i (Zb e2) (Zb e)));have hq:Upd (fun i=>w.heap.size<=i) wr.drew w4:=hu4.mono (fun i _ e=>by have:=aU.out _ (Zb e);omega);have c41:=fZ.out.cell 1;simp only[Qz,Qs]at c41))
    try (go_wp2_with fail)
    refine hK.out _ _ ?_ fun jH=>?_
    ·(first|exact((HU.out.mono (fun _ _ e=>e.elim)).drew)|exact jH|exact jH.trans hq)
    try simp only[Qa]
    refine wpK 6 rfl ?_;refine wpZ 5 rfl fun K hK=>?_;go_simp
    (first
   |(go_at_call 106;refine(Zfx w4 _ A2 c2 ys dy.out (by have:=nb.out;omega)).mono ?_;rintro e w5 ⟨rfl,iB,hu5⟩;have jC:=Qh (fZ.out.upd hu5 (fun e=>by have:=bU.out _ (Zb e);omega));have iT:=Qh (lD.out.upd hu5 (fun e=>by have:=bU.out _ (Zb e);omega));have dP:=Qh iB;have dL:=Qh (Za ej.out hu5 (fun i e e2=>HD.out i (Zb e) (Zb e2)));have hq:Upd (fun i=>w.heap.size<=i) w4 w5:=hu5.mono (fun i _ e=>by have:=bU.out _ (Zb e);omega)))
    try (go_wp2_with fail)
    refine hK.out _ _ ?_ fun jH=>?_
    ·(first|exact((HU.out.mono (fun _ _ e=>e.elim)).drew)|exact jH|exact jH.trans hq)
    try simp only[Qa]
    refine wpZ 7 rfl fun K hK=>?_
    (first
   |(refine ZaP rfl rfl (g:=w.heap.size+1) (i:=0) (v:= .slice A1 (ZG xs).length c1) rfl rfl jC.out (by kernel_rfl) (by simp) rfl ?_;intro w6 hb6 hu6;have gT:=Qh hb6;have gf:=Qh (iT.out.upd hu6 (by unfold One;omega));have cL:=Qh (Za dL.out hu6 (fun i e e2=>by have:=aU.out _ (Zb e);unfold One at e2;omega));have cM:=Qh (Za dP.out hu6 (fun i e e2=>by have:=bU.out _ (Zb e);unfold One at e2;omega));have hq:Upd (fun i=>w.heap.size<=i) w5 w6:=hu6.mono (fun i _ e=>by unfold One at e;omega))
   |(refine ZaP rfl rfl (g:=w.heap.size+1) (i:=1) (v:= .slice A2 (ZG ys).length c2) rfl rfl gT.out (by kernel_rfl) (by simp) rfl ?_;intro w7 fh hu7;have ij:=Qh fh;have fl:=Qh (gf.out.upd hu7 (by unfold One;omega));have fD:=Qh (Za cL.out hu7 (fun i e e2=>by have:=aU.out _ (Zb e);unfold One at e2;omega));have fj:=Qh (Za cM.out hu7 (fun i e e2=>by have:=bU.out _ (Zb e);unfold One at e2;omega));have hq:Upd (fun i=>w.heap.size<=i) w6 w7:=hu7.mono (fun i _ e=>by unfold One at e;omega)))
    refine hK.out _ _ ?_ fun jH=>?_
    ·(first|exact((HU.out.mono (fun _ _ e=>e.elim)).drew)|exact jH|exact jH.trans hq)
    try simp only[Qa]
    refine wpK 8 rfl ?_;refine wpZ 9 rfl fun K hK=>?_
    (first
   |(refine ZaP rfl rfl (g:=w.heap.size+1) (i:=0) (v:= .slice A1 (ZG xs).length c1) rfl rfl jC.out (by kernel_rfl) (by simp) rfl ?_;intro w6 hb6 hu6;have gT:=Qh hb6;have gf:=Qh (iT.out.upd hu6 (by unfold One;omega));have cL:=Qh (Za dL.out hu6 (fun i e e2=>by have:=aU.out _ (Zb e);unfold One at e2;omega));have cM:=Qh (Za dP.out hu6 (fun i e e2=>by have:=bU.out _ (Zb e);unfold One at e2;omega));have hq:Upd (fun i=>w.heap.size<=i) w5 w6:=hu6.mono (fun i _ e=>by unfold One at e;omega))
   |(refine ZaP rfl rfl (g:=w.heap.size+1) (i:=1) (v:= .slice A2 (ZG ys).length c2) rfl rfl gT.out (by kernel_rfl) (by simp) rfl ?_;intro w7 fh hu7;have ij:=Qh fh;have fl:=Qh (gf.out.upd hu7 (by unfold One;omega));have fD:=Qh (Za cL.out hu7 (fun i e e2=>by have:=aU.out _ (Zb e);unfold One at e2;omega));have fj:=Qh (Za cM.out hu7 (fun i e e2=>by have:=bU.out _ (Zb e);unfold One at e2;omega));have hq:Upd (fun i=>w.heap.size<=i) w6 w7:=hu7.mono (fun i _ e=>by unfold One at e;omega)))
    refine hK.out _ _ ?_ fun jH=>?_
    ·(first|exact((HU.out.mono (fun _ _ e=>e.elim)).drew)|exact jH|exact jH.trans hq)
    try simp only[Qa]
    refine wpD (Gd ?_);have m0:=ij.out.cell 0;have m1:=ij.out.cell 1;have s0:=fl.out.cell 0;have s1:=fl.out.cell 1;obtain⟨t0,t1⟩:=fl.out.f2;simp only[List.set_cons_zero,List.set_cons_succ,Qz,Qs]at m0 m1 s0 s1;have HZ:=Qh jH;clear jH hq hb6 fh cU iB hu4 hu5 hu6 hu7 c0 c1' c41 fZ jC gT ij lD iT gf ej dy dL dP cL cM;go_wp2;have b9:=(fl.out.set_ 0 (.slice A1 (ZG xs).length c1)).set_ 1 (.slice A2 (ZG ys).length c2);simp only[List.set_cons_zero,List.set_cons_succ]at b9;have US:=((Gg (One w.heap.size) w7).setOne 0 (.slice A1 (ZG xs).length c1)).setOne 1 (.slice A2 (ZG ys).length c2);refine bodyPost_ret (results_cell_row (p:=2) rfl _ _ _ _ _ _ _ rfl b9 Tryz.underlying120 rfl (by kernel_rfl)) rfl ⟨A1,c1,A2,c2,by rw[<-oj.out,<-oH.out],?_,?_,?_⟩
    ·rw[<-oj.out];exact(Ints.of_owned (Za fD.out US (fun i e e2=>by have:=aU.out _ (Zb e);unfold One at e2;omega))).weak (fun i _ h=>by omega)
    ·rw[<-oH.out];exact(Ints.of_owned (Za fj.out US (fun i e e2=>by have:=bU.out _ (Zb e);unfold One at e2;omega))).weak (fun i _ h=>by omega)
    ·exact((Gg No w).then_ (HZ.out.then_ US (fun i e=> .inr (by unfold One at e;omega))) (fun i e=> .inr e))
   refine wpC rfl (fun K hK=>?_) AllReadyH.nil;go_simp;refine hK.out _ _ ?_ fun jH=>?_
   ·(first|exact((HU.out.mono (fun _ _ e=>e.elim)).drew)|exact jH|exact jH.trans hq)
   try simp only[Qa]
   refine wpZ 1 rfl fun K hK=>?_;go_simp;refine hK.out _ _ ?_ fun jH=>?_
   ·(first|exact((HU.out.mono (fun _ _ e=>e.elim)).drew)|exact jH|exact jH.trans hq)
   try simp only[Qa]
   refine wpZ 2 rfl fun K hK=>?_;go_simp
   (first
  |(go_at_call 106;refine(Zfx wr.drew _ A1 c1 xs dW.out (by have:=ie.out;omega)).mono ?_;rintro e w4 ⟨rfl,cU,hu4⟩;have fZ:=Qh ((show Blk wr.drew _ _ _ from HN.out).upd hu4 (fun e=>by have:=aU.out _ (Zb e);omega));have lD:=Qh ((show Blk wr.drew _ _ _ from HR.out).upd hu4 (fun e=>by have:=aU.out _ (Zb e);omega));have ej:=Qh cU;have dy:=Qh (Za d7.out hu4 (fun i e e2=>HD.out i (Zb e2) (Zb e)));have hq:Upd (fun i=>w.heap.size<=i) wr.drew w4:=hu4.mono (fun i _ e=>by have:=aU.out _ (Zb e);omega);have c41:=fZ.out.cell 1;simp only[Qz,Qs]at c41))
   try (go_wp2_with fail)
   refine hK.out _ _ ?_ fun jH=>?_
   ·(first|exact((HU.out.mono (fun _ _ e=>e.elim)).drew)|exact jH|exact jH.trans hq)
   try simp only[Qa]
   refine wpK 6 rfl ?_;refine wpZ 5 rfl fun K hK=>?_;go_simp
   (first
  |(go_at_call 106;refine(Zfx w4 _ A2 c2 ys dy.out (by have:=nb.out;omega)).mono ?_;rintro e w5 ⟨rfl,iB,hu5⟩;have jC:=Qh (fZ.out.upd hu5 (fun e=>by have:=bU.out _ (Zb e);omega));have iT:=Qh (lD.out.upd hu5 (fun e=>by have:=bU.out _ (Zb e);omega));have dP:=Qh iB;have dL:=Qh (Za ej.out hu5 (fun i e e2=>HD.out i (Zb e) (Zb e2)));have hq:Upd (fun i=>w.heap.size<=i) w4 w5:=hu5.mono (fun i _ e=>by have:=bU.out _ (Zb e);omega)))
   try (go_wp2_with fail)
   refine hK.out _ _ ?_ fun jH=>?_
   ·(first|exact((HU.out.mono (fun _ _ e=>e.elim)).drew)|exact jH|exact jH.trans hq)
   try simp only[Qa]
   refine wpZ 7 rfl fun K hK=>?_
   (first
  |(refine ZaP rfl rfl (g:=w.heap.size+1) (i:=0) (v:= .slice A1 (ZG xs).length c1) rfl rfl jC.out (by kernel_rfl) (by simp) rfl ?_;intro w6 hb6 hu6;have gT:=Qh hb6;have gf:=Qh (iT.out.upd hu6 (by unfold One;omega));have cL:=Qh (Za dL.out hu6 (fun i e e2=>by have:=aU.out _ (Zb e);unfold One at e2;omega));have cM:=Qh (Za dP.out hu6 (fun i e e2=>by have:=bU.out _ (Zb e);unfold One at e2;omega));have hq:Upd (fun i=>w.heap.size<=i) w5 w6:=hu6.mono (fun i _ e=>by unfold One at e;omega))
  |(refine ZaP rfl rfl (g:=w.heap.size+1) (i:=1) (v:= .slice A2 (ZG ys).length c2) rfl rfl gT.out (by kernel_rfl) (by simp) rfl ?_;intro w7 fh hu7;have ij:=Qh fh;have fl:=Qh (gf.out.upd hu7 (by unfold One;omega));have fD:=Qh (Za cL.out hu7 (fun i e e2=>by have:=aU.out _ (Zb e);unfold One at e2;omega));have fj:=Qh (Za cM.out hu7 (fun i e e2=>by have:=bU.out _ (Zb e);unfold One at e2;omega));have hq:Upd (fun i=>w.heap.size<=i) w6 w7:=hu7.mono (fun i _ e=>by unfold One at e;omega)))
   refine hK.out _ _ ?_ fun jH=>?_
   ·(first|exact((HU.out.mono (fun _ _ e=>e.elim)).drew)|exact jH|exact jH.trans hq)
   try simp only[Qa]
   refine wpK 8 rfl ?_;refine wpZ 9 rfl fun K hK=>?_
   (first
  |(refine ZaP rfl rfl (g:=w.heap.size+1) (i:=0) (v:= .slice A1 (ZG xs).length c1) rfl rfl jC.out (by kernel_rfl) (by simp) rfl ?_;intro w6 hb6 hu6;have gT:=Qh hb6;have gf:=Qh (iT.out.upd hu6 (by unfold One;omega));have cL:=Qh (Za dL.out hu6 (fun i e e2=>by have:=aU.out _ (Zb e);unfold One at e2;omega));have cM:=Qh (Za dP.out hu6 (fun i e e2=>by have:=bU.out _ (Zb e);unfold One at e2;omega));have hq:Upd (fun i=>w.heap.size<=i) w5 w6:=hu6.mono (fun i _ e=>by unfold One at e;omega))
  |(refine ZaP rfl rfl (g:=w.heap.size+1) (i:=1) (v:= .slice A2 (ZG ys).length c2) rfl rfl gT.out (by kernel_rfl) (by simp) rfl ?_;intro w7 fh hu7;have ij:=Qh fh;have fl:=Qh (gf.out.upd hu7 (by unfold One;omega));have fD:=Qh (Za cL.out hu7 (fun i e e2=>by have:=aU.out _ (Zb e);unfold One at e2;omega));have fj:=Qh (Za cM.out hu7 (fun i e e2=>by have:=bU.out _ (Zb e);unfold One at e2;omega));have hq:Upd (fun i=>w.heap.size<=i) w6 w7:=hu7.mono (fun i _ e=>by unfold One at e;omega)))
   refine hK.out _ _ ?_ fun jH=>?_
   ·(first|exact((HU.out.mono (fun _ _ e=>e.elim)).drew)|exact jH|exact jH.trans hq)
   try simp only[Qa]
   refine wpD (Gd ?_);have m0:=ij.out.cell 0;have m1:=ij.out.cell 1;have s0:=fl.out.cell 0;have s1:=fl.out.cell 1;obtain⟨t0,t1⟩:=fl.out.f2;simp only[List.set_cons_zero,List.set_cons_succ,Qz,Qs]at m0 m1 s0 s1;have HZ:=Qh jH;clear jH hq hb6 fh cU iB hu4 hu5 hu6 hu7 c0 c1' c41 fZ jC gT ij lD iT gf ej dy dL dP cL cM;go_wp2;have b9:=(fl.out.set_ 0 (.slice A1 (ZG xs).length c1)).set_ 1 (.slice A2 (ZG ys).length c2);simp only[List.set_cons_zero,List.set_cons_succ]at b9;have US:=((Gg (One w.heap.size) w7).setOne 0 (.slice A1 (ZG xs).length c1)).setOne 1 (.slice A2 (ZG ys).length c2);refine bodyPost_ret (results_cell_row (p:=2) rfl _ _ _ _ _ _ _ rfl b9 Tryz.underlying120 rfl (by kernel_rfl)) rfl ⟨A1,c1,A2,c2,by rw[<-oj.out,<-oH.out],?_,?_,?_⟩
   ·rw[<-oj.out];exact(Ints.of_owned (Za fD.out US (fun i e e2=>by have:=aU.out _ (Zb e);unfold One at e2;omega))).weak (fun i _ h=>by omega)
   ·rw[<-oH.out];exact(Ints.of_owned (Za fj.out US (fun i e e2=>by have:=bU.out _ (Zb e);unfold One at e2;omega))).weak (fun i _ h=>by omega)
   ·exact((Gg No w).then_ (HZ.out.then_ US (fun i e=> .inr (by unfold One at e;omega))) (fun i e=> .inr e))
/- Closed walks:the digraph of some edges. -/
theorem ZuG(F F1 F2:Gt)(w:Gy)(A:OA)(c:Nat)(l:List Edge)(hW:Walk F w A l)(A1 A2:OA)(c1 c2:Nat)(ids keys:Gv)(hA:Ints F1 w A1 ids)(hB:Ints F2 w A2 keys)
  (mO:ids.Pairwise (·<·)) (mt:keys.Pairwise (·<·)) (rb:l≠[]->ids≠[]∧keys≠[]) (hl:l.length<=50000) (co:ids.length<=4096) (aN:keys.length<=100000):
  Calls Tryz.prog 70 #[.slice A l.length c,.agg #[.slice A1 ids.length c1,.slice A2 keys.length c2]] w fun e w'=>∃G g K,e= .returned (.tuple #[.pointer (some ⟨g,0,none⟩),Qi 0])∧K<=50000∧DG w' G (some ⟨g,0,none⟩) ids.length K (ZcQ ids keys ids.length [] l)∧Upd No w w':=by
 obtain⟨wb,ah⟩:=Qe (w.alloc (.cells #[.slice A1 ids.length c1,.slice A2 keys.length c2] 120));have u0:Upd No w wb:=by rw[<-ah];exact(Gg No w).alloc _
 have bN:Blk wb w.heap.size 120 [.slice A1 ids.length c1,.slice A2 keys.length c2]:=by rw[<-ah];exact Gh w _ _
 have n0:∀W,Upd No wb W->W.cell? ⟨w.heap.size,0,none⟩=some (.slice A1 ids.length c1):=fun W u=>by have:=(bN.upd u id).cell 0;simpa using this
 have n1:∀W,Upd No wb W->W.cell? ⟨w.heap.size,1,none⟩=some (.slice A2 keys.length c2):=fun W u=>by have:=(bN.upd u id).cell 1;simpa using this
 have d1:decide (4096<(ids.length:Int))=false:=Qf (by omega);have d2:decide (1048575<(keys.length:Int))=false:=Qf (by omega);have hroom:Zdy (ids.length:Int)=ids.length:=by unfold Zdy;omega
 have qv:=Qh (hroom▸ZvM wb (ids.length:Int));have Bv:=Qh (fun(W:Gy) (u:Upd No wb W) (e:Edge) (he:l≠[])=>Zwx F1 F2 W A1 A2 c1 c2 ids keys (hA.upd (u0.trans u) Qo) (hB.upd (u0.trans u) Qo) mO mt (rb he).1 (rb he).2 (by omega) (by omega) e);have HW:=Qh (fun(W:Gy) (u:Upd No wb W)=>hW.upd (u0.trans u) Qo);have U0:=Qh u0;have hr:Upd No wb wb:=Gg _ _;obtain⟨R,hR⟩:=Qe (ZcQ ids keys ids.length [] l);have HR:=Qh hR;rw[hR];clear hR hA hB hW bN u0 mO mt rb hroom;go_enter Tryz.func70,Tryz.ntmps70;go_wp2_with fail;refine(qv.out).mono ?_;rintro e w1 ⟨G0,g0,rfl,eX,hu1,zN⟩;have Ag:=Qh eX;have ka:=Qh zN;have gL:=Qh hu1;clear eX zN hu1 ah hr qv;go_wp2
 go_loopg [25] l.length (fun gk i wr=>∃(k:Nat) (G:Gt) (q:List HArc),k+gk=l.length∧i= Qi k∧Hid (ZcQ ids keys ids.length q (l.drop k)=R)∧Hid (DG wr G (some ⟨g0,0,none⟩) ids.length k q)∧Hid (∀j,G j->wb.heap.size<=j)∧Upd No wb wr)
 case atStart=>exact⟨0,G0,[],by omega,rfl,HR,Ag,ka,gL.out⟩
 case round=>
  obtain⟨k,G,q,aK,rfl,hq,hD,hG,hu⟩:=hrel
  by_cases hlt:k<l.length
  ·obtain⟨ax,rfl,q0,q1,q2,q3⟩:=(HW.out wr hu).at_ hlt;obtain⟨x,dE⟩:=Qe (l[k]);have db:=Ev hlt;rw[dE]at q0 q1 q2 q3 db;have HQ:=Qh (show ZcQ ids keys ids.length (Zej ids.length q (toR ids keys x.arc)) (l.drop (k+1))=R by rw[<-hq.out,db];rfl);have i1:(0:Int)<=(k:Int):=Qn _;have i2:(k:Int)<(l.length:Int):=by omega
   have hne:l≠[]:=fun e=>by rw[e]at hlt;simp at hlt
   obtain⟨wx,aJ⟩:=Qe (wr.alloc (.cells #[Qi x.f,Qi x.t,Qi x.k,Qi x.key] 94));have ux:Upd No wr wx:=by rw[<-aJ];exact(Gg No wr).alloc _
   have bo:Blk wx wr.heap.size 94 [Qi x.f,Qi x.t,Qi x.k,Qi x.key]:=by rw[<-aJ];exact Gh wr _ _
   have lI:=hu.trans ux;obtain⟨g0',g1,g2,g3⟩:=bo.c4;have HC:=Qh (Bv.out wx lI x hne);have yN:=Qh (fun(W:Gy) (u:Upd No wx W)=>ZvN (hD.out.no (ux.trans u)) (by omega) (toR ids keys ⟨x.f,x.t,x.k,x.key⟩));have hZ:=lI.size;have aX:=Qh lI;unfold Edge.cells at HC;clear hq db dE ux bo;go_wp2_with fail;refine Ck HC.out fun w2 hu2=>?_;go_wp2_with fail;refine(yN.out w2 hu2).mono ?_;rintro e w3 ⟨G3,rfl,vU,hu3,eM⟩;have Df:=Qh vU;have dB:=hu2.size;have BI:=Qh (show∀j,G3 j->wb.heap.size<=j from fun j h=>(eM j h).elim (hG.out j) (fun h=>by omega));have U3:Upd No wb w3:=(aX.out.trans hu2).then_ hu3 (fun i e=> .inr (hG.out i e));clear vU hu3 eM hu2 yN HC;go_wp2;go_roundg (gk-1);exact⟨k+1,G3,_,by omega,by go_num,HQ,Df,BI,U3⟩;omega
  ·obtain rfl:k=l.length:=by omega
   have zC:q=R:=by have:=hq.out;rw[Fq]at this;exact this
   have B9:=Qh zC;clear zC hq;go_wp2;go_ret2;rw[<-B9.out];exact⟨G,g0,l.length,rfl,hl,hD.out,U0.out.trans hu⟩
/- Closed walks:the edges that do not count are dropped. -/
def ZdI(l:List Edge)(mask:Int):Nat:=l.findIdx (Za4 mask)
def Zfj(l:List Edge)(mask:Int):Int:=if ZdI l mask<l.length then (ZdI l mask:Int) else -1
theorem Zrg{l:List Edge}{mask:Int}{k:Nat}(hk:k<l.length)(h:∀(j:Nat) (hj:j<k),Za4 mask (l[j]'(by omega))=false)(h1:Za4 mask l[k]=true):ZdI l mask=k:=by
 unfold ZdI;rw[List.findIdx_eq hk];exact⟨h1,fun j hj=>by simp only[h j hj]⟩
theorem Zpy{l:List Edge}{mask:Int}(h:∀(j:Nat) (hj:j<l.length),Za4 mask l[j]=false):ZdI l mask=l.length:=by
 unfold ZdI;rw[List.findIdx_eq_length];intro x hx;obtain⟨k,hk,rfl⟩:=E8.1 hx;simp only[h k hk]
theorem ZuF(F:Gt)(w:Gy)(B:OA)(d:Nat)(l:List Edge)(p:Addr)(mask:Int)(H:Walk F w B l)(hl:l.length<=1000000)(hp:w.cell? p=some (Qi mask)):
  CN 105 #[.slice B l.length d,.func (.func 68) #[] #[.pointer (some p)]] w (Qi (Zfj l mask)):=by
 go_enter Tryz.func105,Tryz.ntmps105;go_wp2
 go_loopg [8] l.length (fun gk s wr=>∃k:Nat,k+gk=l.length∧s= Qi k∧Hid (∀(j:Nat) (hj:j<l.length),j<k->Za4 mask l[j]=false)∧Upd No w wr)
 case atStart=>exact⟨0,by omega,rfl,Qh (fun j _ hj=>by omega),Gg _ _⟩
 case round=>
  obtain⟨k,aK,rfl,aH,hu⟩:=hrel
  by_cases hlt:k<l.length
  ·obtain⟨ad,rfl,q0,q1,q2,q3⟩:=(H.upd hu Qo).at_ hlt;obtain⟨x,hx⟩:=Qe (l[k]);rw[hx]at q0 q1 q2 q3;have jD:=hu.keepNo hp;have X:=Qh hx;have b2:(k:Int)<(l.length:Int):=by omega
   have b1:(0:Int)<=(k:Int):=Qn _;have HC:=Qh (ZsC wr p mask jD x);unfold Edge.cells at HC;clear hx
   by_cases he:Za4 mask x=true
   ·have a8:=Qh (show Zfj l mask=(k:Int) by unfold Zfj;rw[Zrg (l:=l) (mask:=mask) hlt (fun j hj=>aH.out j (by omega) hj) (by rw[X.out];exact he),if_pos hlt]);have He:=Qh he;clear he;go_wp2_with fail;refine(HC.out).mono ?_;rintro e w1 ⟨gW,hu1⟩;rw[He.out]at gW;subst gW;go_wp2;go_ret;exact⟨by rw[a8.out];rfl,hu.trans hu1⟩
   ·have pN:Za4 mask x=false:=by simpa using he
    have He:=Qh pN;clear he pN;go_wp2_with fail;refine(HC.out).mono ?_;rintro e w1 ⟨gW,hu1⟩;rw[He.out]at gW;subst gW;go_wp2;go_roundg (gk-1)
    case measure=>omega
    case rel=>exact⟨k+1,by omega,by go_num,Qh (fun j hj hjk=>by
      by_cases e:j=k
      ·subst e;rw[X.out];exact He.out
      ·exact aH.out j hj (by omega)),hu.trans hu1⟩
  ·obtain rfl:k=l.length:=by omega
   have a8:=Qh (show Zfj l mask= -1 by unfold Zfj;rw[Zpy (l:=l) (mask:=mask) fun j hj=>aH.out j hj hj,if_neg (by omega)]);go_wp2;go_ret;exact⟨by rw[a8.out];rfl,hu⟩
theorem ZmJ{P:Gw}{ops:Array Oper}{rest:List Oper}{o:Oper}{a:Act}{W:Gy}{Q:Exit->Act->Gy->Prop}(cw:o.guard=none){ty:Gx}{x y:Operand}(ho:o.op= .store ty x y)
  {g off:Nat} {t:Gx} {cur cells:Gl} {A:Addr} (hx:a.eval x= .pointer (some A)) (hA:A=⟨g,off,none⟩) (hy:a.eval y= .agg cells.toArray) (hb:Blk W g t cur) (hi:(P.info? ty).map (·.size)=some cells.length) (aR:off+cells.length<=cur.length)
  (h1:∀v∈cells,v.oneCell'=true) (h:∀w',Blk w' g t (cur.take off++cells++cur.drop (off+cells.length))->Upd (One g) W w'->wpList P ops Q rest (a.put o.dst undef) w'):wpList P ops Q (o::rest) a W:=by
 subst hA;have ag:=run_storeCells_at P g off t cells 0 cur.toArray W hb (by simpa using aR) h1;simp only[Nat.add_zero]at ag
 have dl:(storeVar ty ⟨g,off,none⟩ (.agg cells.toArray)).run P W= .ok () (W.setRow g (cur.take off++cells++cur.drop (off+cells.length)).toArray):=by
  cases hq:P.info? ty with
  |none=>simp[hq]at hi
  |some i=>
   have hs:cells.length=i.size:=by simp[hq]at hi;omega
   simp[storeVar,sizeOf,typeInfo,hq,Value.cells,hs,ag]
 refine wpList_plain cw fun _ hK=>?_
 unfold Oper.wp execOp;simp only[ho,hx,hy,Instr.storeAt,Instr.sureAddr,Sem.run_bind,Sem.run_pure,Result.andThen_ok,dl];exact hK _ _ (h _ (ZdE hb) (Zds _ _))
theorem ZhM(a:Edge)(l:List Edge):Zi (a::l)=a.cells++Zi l:=rfl
theorem Zga(l m:List Edge):Zi (l++m)=Zi l++Zi m:=by unfold Zi;simp
theorem ZhL(l:List Edge)(i:Nat):(Zi l).take (i*4)=Zi (l.take i):=by
 rcases Nat.lt_or_ge l.length i with h|h
 ·rw[List.take_of_length_le (by rw[Zaf];omega),List.take_of_length_le (by omega)]
 ·conv=>lhs;rw[<-List.take_append_drop i l,Zga]
  rw[Eu (by rw[Zaf,Fl];omega),List.take_of_length_le (by rw[Zaf,Fl];omega)]
theorem Zoq{xs:List Edge}{m n:Nat}{x:Edge}{cs:Gl}(hm:m<n)(hn:xs.length=n)(hc:n*4<=cs.length)(h:cs.take (n*4)=Zi xs):
  (cs.take (m*4)++x.cells++cs.drop (m*4+x.cells.length)).take (n*4)=Zi (xs.set m x):=by
 have ct:cs=Zi xs++cs.drop (n*4):=by rw[<-h,List.take_append_drop]
 have hl:x.cells.length=4:=rfl;have cI:xs=xs.take m++xs[m]'(by omega)::xs.drop (m+1):=by rw[<-Ev (by omega:m<xs.length),List.take_append_drop]
 have gB:xs.set m x=xs.take m++x::xs.drop (m+1):=by rw[List.set_eq_take_append_cons_drop,if_pos (by omega)]
 have e1:cs.take (m*4)=Zi (xs.take m):=by
  rw[<-ZhL,<-h,List.take_take,Nat.min_eq_left (by omega)]
 have e2:cs.drop (m*4+4)=Zi (xs.drop (m+1))++cs.drop (n*4):=by
  conv=>lhs;rw[ct,cI,Zga,ZhM,<-Fg]
  rw[Fg (Zi (xs.take m)++_),List.drop_append,List.drop_of_length_le (by rw[Fb,Zaf,Fl];show _+4<=_;omega)];have:m*4+4-(Zi (List.take m xs)++(xs[m]'(by omega)).cells).length=0:=by rw[Fb,Zaf,Fl];show m*4+4-(_+4)=0;omega
  rw[this];simp
 rw[hl,e1,e2,gB,Zga,ZhM,<-Fg,<-Fg];rw[Eu (by simp only[Fb,Zaf,hl,Fl,Fo];omega),List.take_of_length_le (by simp only[Fb,Zaf,hl,Fl,Fo];omega)]
theorem ZhS{w:Gy}{g:Nat}{cs:Gl}{l:List Edge}(hb:Blk w g 94 cs)(h:cs.take (l.length*4)=Zi l):Walk (fun i=>i=g) w (some ⟨g,0,none⟩) l:=by
 intro _;refine⟨_,rfl,rfl,hb.lt,fun i row hi j v hj=>?_⟩;have e1:(⟨g,0,none⟩:Addr).add (i*4+j)=⟨g,i*4+j,none⟩:=by unfold Addr.add;split<;>simp_all
 rw[e1,hb.cell];have h1:=ZeM (size:=4) (rows:=l.map Edge.cells) Zao hi hj;have h2:(cs.take (l.length*4))[i*4+j]? =some v:=by rw[h];exact h1
 rw[List.getElem?_take]at h2
 split at h2
 ·exact h2
 ·cases h2
def ZaY(l:List Edge)(mask:Int):List Edge:=l.filter fun x=> !Za4 mask x
theorem Zwv(w:Gy)(ad:Addr)(g c:Nat)(rV:Hid (ad=⟨g,0,none⟩))(l:List Edge)(cur:Gl)(p:Addr)(mask:Int)(hb:Blk w g 94 cur)(ht:cur.take (l.length*4)=Zi l)(cO:cur.length=c*4)(og:l.length<=c)(hl:l.length<=1000000)
  (hp:w.cell? p=some (Qi mask)) (Dd:p.block≠g):
  Calls Tryz.prog 66 #[.slice (some ad) l.length c,.func (.func 68) #[] #[.pointer (some p)]] w fun e w'=>e= .returned (.slice (some ad) (ZaY l mask).length c)∧(∃cs,Blk w' g 94 cs∧cs.take ((ZaY l mask).length*4)=Zi (ZaY l mask))∧Upd (One g) w w':=by
 have hW:Walk (fun i=>i=g) w (some ad) l:=by rw[rV.out];exact ZhS hb ht
 have HI:=Qh (ZuF (fun i=>i=g) w (some ad) c l p mask hW hl hp)
 by_cases a8:ZdI l mask<l.length
 ·have p8:Zfj l mask=(ZdI l mask:Int):=by unfold Zfj;rw[if_pos a8]
  rw[p8]at HI;have pq:Za4 mask l[ZdI l mask]=true:=List.findIdx_getElem (p:=Za4 mask) (w:=a8)
  have fQ:∀(j:Nat) (hj:j<ZdI l mask),Za4 mask (l[j]'(by omega))=false:=fun j hj=>by
   have:=List.not_of_lt_findIdx (p:=Za4 mask) (xs:=l) hj
   simpa using this
  obtain⟨k,hk⟩:=Qe (ZdI l mask);have fL:k<l.length:=by omega
  have bQ:ZaY (l.take (k+1)) mask=l.take k:=by
   unfold ZaY;rw[Es fL,List.filter_append,List.filter_cons_of_neg (by rw[show Za4 mask l[k]=true by simpa[hk]using pq];decide)]
   rw[List.filter_eq_self.2 (fun x hx=>by
    obtain⟨j,hj,rfl⟩:=E8.1 hx;rw[List.getElem_take,fQ j (by rw[hk];simp at hj;omega)];rfl)]
   simp
  have xF:((k:Int)== -1)=false:=by rw[beq_eq_false_iff_ne];omega
  have DR:IntKind.i64.wrap ((k:Int)+1)=(k:Int)+1:=IntWalk.i64_in _ (by omega);rw[hk]at HI;have p7:=Qh bQ;have HB:=Qh hb;have HT:=Qh ht;have fF:=Qh cO;clear p8 pq fQ a8 hk bQ hW hb ht cO;go_enter Tryz.func66,Tryz.ntmps66;go_wp2_with fail;refine Ck HI.out fun w1 hu1=>?_;have cR:=Qh (HB.out.upd hu1 id);have gL:Hid (Upd (One g) w w1):=Qh (hu1.mono (fun _ _ e=>e.elim));have ie:=Qh (List.length_take_of_le (Nat.le_of_lt fL):(l.take k).length=k);clear hu1;go_wp2
  go_loopg [5,6] (l.length-(k+1)) (fun gk si sj wr=>∃(m j:Nat) (xs:List Edge) (cs:Gl),j+gk=l.length∧si= Qi m∧sj= Qi j∧m<j∧Hid (xs.length=l.length)∧Hid (xs.take m=ZaY (l.take j) mask∧(ZaY (l.take j) mask).length=m)∧Hid (xs.drop j=l.drop j)∧Hid (Blk wr g 94 cs)∧Hid (cs.take (l.length*4)=Zi xs∧cs.length=c*4)∧Upd (One g) w wr)
  case atStart=>exact⟨k,k+1,l,cur,by omega,rfl,by go_num,by omega,Qh rfl,Qh ⟨p7.out.symm,by rw[p7.out];exact ie.out⟩,Qh rfl,cR,Qh ⟨HT.out,fF.out⟩,gL.out⟩
  case round=>
   obtain⟨m,j,xs,cs,aK,rfl,rfl,oc,na,HM,HD,sg,kj,hu⟩:=hrel;have i0:(0:Int)<=(m:Int):=Qn _
   by_cases hlt:j<l.length
   ·obtain⟨x,hx⟩:=Qe (l[j]);have r7:j<xs.length:=by rw[na.out];exact hlt
    have zE:xs[j]=x:=by
     have h1:=Ev r7;have h2:=Ev hlt;rw[HD.out,h2]at h1
     injection h1 with h1 _
     rw[<-h1,hx]
    have yS:Walk (fun i=>i=g) wr (some ad) xs:=by rw[rV.out];exact ZhS sg.out (by rw[na.out];exact kj.out.1)
    obtain⟨ad',e',q0,q1,q2,q3⟩:=yS.at_ r7
    cases e'
    rw[zE]at q0 q1 q2 q3
    have yB:xs.drop (j+1)=l.drop (j+1):=by
     have h1:=Ev r7;have h2:=Ev hlt;rw[HD.out,h2]at h1
     injection h1 with _ h1
     exact h1.symm
    have yC:=Qh yB;have HX:=Qh hx;have i1:(0:Int)<=(j:Int):=Qn _;have i2:(j:Int)<(l.length:Int):=by omega
    have i3:(m:Int)<(l.length:Int):=by omega
    have jD:=hu.keep hp Dd;obtain⟨wx,aJ⟩:=Qe (wr.alloc (.cells #[Qi x.f,Qi x.t,Qi x.k,Qi x.key] 94));have ux:Upd No wr wx:=by rw[<-aJ];exact(Gg No wr).alloc _
    have bo:Blk wx wr.heap.size 94 [Qi x.f,Qi x.t,Qi x.k,Qi x.key]:=by rw[<-aJ];exact Gh wr _ _
    obtain⟨g0,g1,g2,g3⟩:=bo.c4;have HC:=Qh (ZsC wx p mask (ux.keepNo jD) x);have BO:=Qh bo;have UX:=Qh ux;have tY:=Qh jD;unfold Edge.cells at HC;clear hx r7 zE yS yB bo ux jD HD
    cases hbx:Za4 mask x
    ·rw[hbx]at HC;have iP:=Qh hbx;clear hbx;go_wp2_with fail;refine Ck HC.out fun w2 hu2=>?_;have bo2:=BO.out.upd hu2 id;obtain⟨g0,g1,g2,g3⟩:=bo2.c4;have gY:=Qh ((sg.out.upd UX.out id).upd hu2 id);have bC:=Qh (hu.trans ((UX.out.trans hu2).mono (fun _ _ e=>e.elim)));clear hu2 HC;go_wp2_with (refine ZmJ rfl rfl (g:=g) (off:=m*4) (cells:=[Qi x.f,Qi x.t,Qi x.k,Qi x.key]) rfl (by rw[rV.out,ZjK,Nat.zero_add]) rfl gY.out (by kernel_rfl) (by have:=kj.out.2;simp only[Fs,Fz];omega) (by intro v hv;simp only[F9,Ft,or_false]at hv;rcases hv with rfl|rfl|rfl|rfl<;>rfl) ?_;intro w5 aS hu5);have py:=Zoq (m:=m) (n:=l.length) (x:=x) (xs:=xs) (cs:=cs) (by omega) na.out (by have:=kj.out.2;omega) kj.out.1
     have pF:(cs.take (m*4)++x.cells++cs.drop (m*4+x.cells.length)).length=c*4:=by
      have h4:x.cells.length=4:=rfl;have:=kj.out.2;rw[Fb,Fb,Fl,Fo,h4];omega
     have pY:ZaY (l.take (j+1)) mask=ZaY (l.take j) mask++[x]:=ZkN hlt HX.out (by rw[iP.out];rfl);have gJ:=Qh aS;have ff:=Qh (bC.out.trans hu5);have DL:=Qh (And.intro py pF);have sK:=Qh pY;clear aS hu5 py pF pY;go_roundg (gk-1)
     case measure=>omega
     case rel=>
      refine⟨m+1,j+1,xs.set m x,_,by omega,by go_num,by go_num,by omega,Qh (by rw[List.length_set];exact na.out),Qh ⟨?_,?_⟩,Qh ?_,gJ,DL,ff.out⟩
      ·rw[sK.out,<-HM.out.1,List.set_eq_take_append_cons_drop,if_pos (by have:=na.out;omega),List.take_append,List.take_of_length_le (by rw[Fl];omega),Fl,Nat.min_eq_left (by have:=na.out;omega),Nat.add_sub_cancel_left];rfl
      ·rw[sK.out,Fb,HM.out.2];rfl
      ·rw[List.drop_set_of_lt (by omega)];exact yC.out
    ·rw[hbx]at HC;have pY:ZaY (l.take (j+1)) mask=ZaY (l.take j) mask:=Zmk hlt HX.out (by rw[hbx];rfl);have sK:=Qh pY;clear hbx pY;go_wp2_with fail;refine Ck HC.out fun w2 hu2=>?_;have gY:=Qh ((sg.out.upd UX.out id).upd hu2 id);have bC:=Qh (hu.trans ((UX.out.trans hu2).mono (fun _ _ e=>e.elim)));clear hu2 HC;go_wp2;go_roundg (gk-1);exact⟨m,j+1,xs,cs,by omega,rfl,by go_num,by omega,na,Qh (by rw[sK.out];exact HM.out),yC,gY,kj,bC.out⟩;omega
   ·obtain rfl:j=l.length:=by omega
    have hA:=rV.out;subst hA
    have jJ:ZaY l mask=xs.take m∧(ZaY l mask).length=m:=by
     have:=HM.out;rw[Fj]at this;exact⟨this.1.symm,this.2⟩
    have nR:=Qh jJ;have i3:(m:Int)<=(l.length:Int):=by omega
    have rW:¬c=m:=by omega
    have k1:∀W,(Instr.slice 34 (.slice (some ⟨g,0,none⟩) l.length c) (some (Qi (m:Int))) none none).run Tryz.prog W= .ok (.slice (some ⟨g,m*4,none⟩) (l.length-m) (c-m)) W:=fun W=>by
     have:=Zb8 (P:=Tryz.prog) (W:=W) ZQ (some ⟨g,0,none⟩) l.length c m (by omega)
     rwa [Zgf rW]at this
    have k2:∀W,(Instr.slice 34 (.slice (some ⟨g,0,none⟩) l.length c) none (some (Qi (m:Int))) none).run Tryz.prog W= .ok (.slice (some ⟨g,0,none⟩) m c) W:=fun W=>by
     have:=Zd6 (P:=Tryz.prog) (W:=W) ZQ (some ⟨g,0,none⟩) l.length c m (by omega)
     rwa [Zlb]at this
    have HU:=Qh hu;clear jJ hu cR gL p7 HT fF ie HM HD;go_wp2_with (refine ZoR rfl rfl ZQ (z:= .agg #[Qi 0,Qi 0,Qi 0,Qi 0]) (fun w=>by kernel_rfl) rfl (by intro v hv;simp[Value.cells]at hv;subst hv;rfl) (g:=g) (off:=m*4) (n:=l.length-m) rfl (by omega) sg.out (by have:=kj.out.2;omega) ?_;intro zs w6 gc iD hu6)
    have o8:(cs.take (m*4)++zs++cs.drop (m*4+zs.length)).take (m*4)=Zi (ZaY l mask):=by
     rw[Fg,Eu (by rw[Fl];have:=kj.out.2;omega),List.take_take,Nat.min_self,nR.out.1,<-ZhL,<-kj.out.1,List.take_take,Nat.min_eq_left (by omega)]
    have HF:=Qh o8;have rC:=Qh iD;have mI:=Qh (HU.out.trans hu6);clear o8 iD hu6;go_wp2;go_ret;exact⟨by rw[nR.out.2];rfl,⟨_,rC.out,by rw[nR.out.2];exact HF.out⟩,mI.out⟩
 ·have p8:Zfj l mask= -1:=by unfold Zfj;rw[if_neg a8]
  rw[p8]at HI
  have aH:ZaY l mask=l:=by
   unfold ZaY;rw[List.filter_eq_self];intro x hx
   have h0:ZdI l mask=l.length:=by
    have:=List.findIdx_le_length (xs:=l) (p:=Za4 mask);unfold ZdI at a8 ⊢;omega
   have h1:=(List.findIdx_eq_length (p:=Za4 mask) (xs:=l)).1 h0 x hx;rw[h1];rfl
  have qp:=Qh aH;have HB:=Qh hb;have HT:=Qh ht;clear p8 a8 aH hW hb ht;go_enter Tryz.func66,Tryz.ntmps66;go_wp2_with fail;refine Ck HI.out fun w1 hu1=>?_;go_wp2;go_ret;exact⟨by rw[qp.out];rfl,⟨cur,HB.out.upd hu1 id,by rw[qp.out];exact HT.out⟩,hu1.mono (fun _ _ e=>e.elim)⟩
/- Closed walks:the first of the shortest:what is called,and what is known of walks. -/
theorem Zrn{W:Gy}{B n:Nat}{e:Gx}(hn:n=W.heap.size)(hB:B<=W.heap.size):(W.alloc (.cells #[] e)).ownsRow B e 4 (.slice (some ⟨n,0,none⟩) 0 0) 0 []:=by
 subst hn;exact Zz (World.ownsRow_made W #[] 0 (Nat.le_refl _) (by decide) rfl) hB
theorem ZqL{F:Gt}{w:Gy}{A:OA}{l:List Edge}(h:Walk F w A l):Src w A l.length 4 (Zi l):=by
 have:=Recs.src h Zao
 rwa [F6]at this
theorem ZuI(F:Gt)(w:Gy)(A:OA)(c:Nat)(l:List Edge)(h:Walk F w A l)(hl:l.length<=1000000):
  Calls Tryz.prog 67 #[.slice A l.length c] w (Zhf w l):=by
 have qT:∀(w:Gy) (a:OA) (n c:Nat),(binOp .eql 34 (.slice a n c) (.slice none 0 0)).run Tryz.prog w= .ok (.bool a.isNone) w:=fun w a n c=>Lib.run_eql_slice_nil w _ _ a n c 0 0 Tryz.underlying34
 cases A with
 |none=>
  have h0:l=[]:=by
   cases l with
   |nil=>rfl
   |cons a l=>obtain⟨_,e,_⟩:=h (by simp);cases e
  subst h0;go_enter Tryz.func67,Tryz.ntmps67;go_wp2;go_ret;exact⟨none,0,rfl,Gf _ _ _ _,Gg _ _⟩
 |some ad=>
  have hs:=Qh (h.upd ((Gg No w).alloc (.cells #[] 94)) Qo);go_enter Tryz.func67,Tryz.ntmps67;go_wp2_with (at_builtin;refine Zgk rfl rfl ZQ (base:=w.heap.size) (v:= .slice (some ⟨w.heap.size,0,none⟩) 0 0) (n:=0) (m:=l.length) (xs:=[]) rfl rfl (Zrn rfl (Nat.le_refl _)) (ZqL hs.out) ZgY (by omega) (by omega) (by simp) ?_);intro v4 w4 ar hu4 cQ;obtain⟨A4,c4,rfl⟩:=ZaQ ar;have uw4:Upd No w w4:=((Gg No w).alloc _).then_ hu4 (fun j e=> .inr (ZiM e));go_wp2;go_ret;exact⟨A4,c4,by simp,by simpa using ar,uw4⟩
theorem ZvS(w:Gy)(base:Nat)(A:OA)(c:Nat)(l:List Edge)(p:Addr)(mask:Int)(ho:w.ownsRow base 94 4 (.slice A l.length c) l.length (Zi l))(hl:l.length<=1000000)
  (hp:w.cell? p=some (Qi mask)) (DW:p.block<base):
  Calls Tryz.prog 66 #[.slice A l.length c,.func (.func 68) #[] #[.pointer (some p)]] w fun e w'=>e= .returned (.slice A (ZaY l mask).length c)∧Walk (fun i=>base<=i) w' A (ZaY l mask)∧Upd (Own (.slice A l.length c)) w w':=by
 by_cases h0:l=[]
 ·subst h0;have HI:=Qh (ZuF (fun _=>True) w A c [] p mask (fun h=>absurd rfl h) (by simp) hp);rw[show Zfj [] mask= -1 from rfl]at HI;go_enter Tryz.func66,Tryz.ntmps66;go_wp2_with fail;refine Ck HI.out fun w1 hu1=>?_;go_wp2;go_ret;exact⟨rfl,fun h=>absurd rfl h,hu1.mono (fun _ _ e=>e.elim)⟩
 ·obtain⟨g,cur,rfl,mF,hB,eA,cO,iM,il⟩:=ZjF ho (List.length_pos_iff.2 h0);refine(Zwv w ⟨g,0,none⟩ g c (Qh rfl) l cur p mask hB iM cO eA hl hp (by omega)).mono ?_;rintro e w' ⟨rfl,⟨cs,hb,ht⟩,hu⟩;exact⟨rfl,Recs.weak (ZhS hb ht) (fun i _ e=>by subst e;exact mF),hu.mono (fun i _ e=>by cases e;rfl)⟩
theorem ZqG{N:Nat}{q:List HArc}(hr:∀a∈q,Zs N a=true)(hs:Zai q)(mask must:Int)(need:Bool){i:Int}(h0:0<=i)(h1:i<(N:Int))(hk:0<Zal (ofA mask q) must i (Zag N q mask i) (Zy N q mask must i) need):
  ((ZN (ofA mask q) must i (Zag N q mask i) (Zy N q mask must i) (Zal (ofA mask q) must i (Zag N q mask i) (Zy N q mask must i) need).toNat i need).length:Int)=Zal (ofA mask q) must i (Zag N q mask i) (Zy N q mask must i) need:=by
 have hL:LoopD (ofA mask q) must i (Zag N q mask i) (Zy N q mask must i):=ZfZ hr mask must i h0 h1;obtain⟨c,c1,c2,c3,c4⟩:=Zlt hL need hk
 have cI:=ZfF (hs.filter _) hL (Zqv hr mask must i h0 h1) (Zm5 hr mask must i h0 h1) (Zal (ofA mask q) must i (Zag N q mask i) (Zy N q mask must i) need).toNat i need (Int.le_refl _) ⟨c,c2,by omega,c4⟩ (fun l l1 l2 l3=>by
  have:=(ZhW hL need l1 l2 l3).2;omega)
 exact(congrArg (fun n:Nat=>(n:Int)) cI.2.1).trans (Int.toNat_of_nonneg (Int.le_of_lt hk))
theorem ZqQ{N:Nat}{q:List HArc}(hN:N<=100000)(hr:∀a∈q,Zs N a=true)(mask must:Int)(need:Bool){i:Int}(h0:0<=i)(h1:i<(N:Int)):
  0<=Zal (ofA mask q) must i (Zag N q mask i) (Zy N q mask must i) need∧Zal (ofA mask q) must i (Zag N q mask i) (Zy N q mask must i) need<=1000000:=by
 have hb:=Zlv hN hr mask must i h0 h1;have cI:=ZcW (ZT must (Zag N q mask i) (Zy N q mask must i) need) ((ofA mask q).filter fun a=>a.f==i) 0 (Int.le_refl _);refine⟨cI.1,?_⟩;refine Classical.byContradiction fun hc=>?_
 have fV:0<Z6 (ZT must (Zag N q mask i) (Zy N q mask must i) need) 0 ((ofA mask q).filter fun a=>a.f==i):=by unfold Zal at hc;omega
 rcases cI.2.2.2 fV with e|⟨a,_,ha,e⟩
 ·omega
 ·have hle:ZT must (Zag N q mask i) (Zy N q mask must i) need a<=900000:=by
   unfold ZT
   split
   ·exact(hb a.t).2.2
   ·exact(hb a.t).1.2
  unfold Zal at hc;omega
theorem Zp2(l:List Edge)(mask:Int):ZaY l (bits .and .i64 mask 14)=Zaa l mask:=by
 unfold ZaY Zaa
 congr 1
 funext e
 rw[ZuM,Bool.not_not]
