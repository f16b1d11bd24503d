/- Closed walks, plain: the document's answer, and that the search by ranks tells the same. -/
import Derived.Sort.Row
import Derived.Test.YtdbjokfejmgepaaProg
import Derived.Shelf.SlicesG.CompactI
import Derived.BigRegion
import Derived.Test.YtdbjokfejmgepaaRaai
import Derived.Test.YtdbjokfejmgepaaRaam
import Derived.Test.YtdbjokfejmgepaaRabd
import Derived.Test.YtdbjokfejmgepaaRabn
import Derived.Test.YtdbjokfejmgepaaRabo
import Derived.Test.YtdbjokfejmgepaaRabp
namespace Go.Proofs.Ytdbjokfejmgepaa
set_option linter.unusedVariables false
set_option linter.unusedSimpArgs false
section
open Go.RowKit
def ZaW:List Edge→List Edge→List Edge
 |acc,[]=>acc
 |acc,e::l=>ZaW (ZaD e acc) l
def ZaB:List Int→List Edge→List Int
 |acc,[]=>acc
 |acc,e::l=>ZaB (Zd e.t (Zd e.f acc)) l
def Z3 (must:Int):Bool:=Zh must 1||(Zh must 2||Zh must 3)
def Zab (l:List Edge) (mask:Int):List Edge:=ZaW [] (l.filter fun e=>Zh mask e.k)
def ZcM (q:List Edge) (must:Int):Nat×Int:=ZaS (ZH must (Z3 must) q) (2*(ZaB [] q).length) (ZaB [] q) (0,0)
def Zbi (l:List Edge) (mask must:Int):List Edge:=
 if (ZcM (Zab l mask) must).1=0 then [] else Zm must (Zab l mask) (Zf must (Zab l mask) (ZcM (Zab l mask) must).2) (ZcM (Zab l mask) must).1 (ZcM (Zab l mask) must).2 (Z3 must)
theorem Ziw {a b:Edge} (h:a.arc=b.arc):a=b:=by rw[←ZdL a,←ZdL b,h]
theorem ZdC {l:List Edge} {e:Edge}:e.arc∈l.map Edge.arc↔e∈l:=by
 rw[List.mem_map];exact⟨fun⟨x,hx,h⟩=>Ziw h▸hx,fun h=>⟨e,h,rfl⟩⟩
theorem ZjH (a b:Edge) (l:List Edge):b∈ZaD a l↔b=a∨b∈l:=by
 rw[←ZdC,ZcY,ZaE,ZdC];exact⟨fun h=>h.imp Ziw id,fun h=>h.imp (fun e=>by rw[e]) id⟩
theorem ZhP (a:Edge) (l:List Edge) (h:l.Pairwise fun a b=>ltE a b=true):(ZaD a l).Pairwise fun a b=>ltE a b=true:=by
 have h1:Zak (l.map Edge.arc):=List.pairwise_map.2 (h.imp fun {x y} e=>by rw[←ZcH];exact e);have h2:=Zch a.arc _ h1;rw[←ZcY]at h2;exact(List.pairwise_map.1 h2).imp fun {x y} e=>by rw[ZcH];exact e
theorem Zgv (b:Edge):∀(l acc:List Edge),b∈ZaW acc l↔b∈acc∨b∈l
 |[],acc=>by simp[ZaW]
 |e::l,acc=>by
  show b∈ZaW (ZaD e acc) l↔_
  rw[Zgv b l,ZjH,List.mem_cons]
  constructor
  ·rintro((h|h)|h)
   ·exact .inr (.inl h)
   ·exact .inl h
   ·exact .inr (.inr h)
  ·rintro(h|h|h)
   ·exact .inl (.inr h)
   ·exact .inl (.inl h)
   ·exact .inr h
theorem Zed:∀(l acc:List Edge),(acc.Pairwise fun a b=>ltE a b=true)→(ZaW acc l).Pairwise fun a b=>ltE a b=true
 |[],_,h=>h
 |e::l,acc,h=>Zed l _ (ZhP e acc h)
theorem ZgH (a:Edge) (l:List Edge):(ZaD a l).length≤l.length+1:=by
 have:=Zhe a.arc (l.map Edge.arc);rw[←ZcY,List.length_map,List.length_map]at this;exact this
theorem ZgI:∀(l acc:List Edge),(ZaW acc l).length≤acc.length+l.length
 |[],acc=>by simp[ZaW]
 |e::l,acc=>by
  have:=ZgI l (ZaD e acc);have:=ZgH e acc
  show(ZaW (ZaD e acc) l).length≤_
  simp only[List.length_cons];omega
theorem Zht (x:Int):∀(l:List Edge) (acc:List Int),x∈ZaB acc l↔x∈acc∨∃e∈l,x=e.f∨x=e.t
 |[],acc=>by simp[ZaB]
 |e::l,acc=>by
  show x∈ZaB (Zd e.t (Zd e.f acc)) l↔_
  rw[Zht x l,Z9,Z9]
  constructor
  ·rintro((h|h|h)|⟨y,hy,h⟩)
   ·exact .inr ⟨e,List.mem_cons_self,.inr h⟩
   ·exact .inr ⟨e,List.mem_cons_self,.inl h⟩
   ·exact .inl h
   ·exact .inr ⟨y,List.mem_cons_of_mem _ hy,h⟩
  ·rintro(h|⟨y,hy,h⟩)
   ·exact .inl (.inr (.inr h))
   ·rcases List.mem_cons.1 hy with rfl|hy
    ·rcases h with h|h
     ·exact .inl (.inr (.inl h))
     ·exact .inl (.inl h)
    ·exact .inr ⟨y,hy,h⟩
theorem Zdh:∀(l:List Edge) (acc:List Int),acc.Pairwise (·<·)→(ZaB acc l).Pairwise (·<·)
 |[],_,h=>h
 |e::l,acc,h=>Zdh l _ (Zdd _ _ (Zdd _ _ h))
theorem ZhI:∀(l:List Edge) (acc:List Int),(ZaB acc l).length≤acc.length+2*l.length
 |[],acc=>by simp[ZaB]
 |e::l,acc=>by
  have:=ZhI l (Zd e.t (Zd e.f acc));have:=Zk e.t (Zd e.f acc);have:=Zk e.f acc
  show(ZaB (Zd e.t (Zd e.f acc)) l).length≤_
  simp only[List.length_cons];omega
theorem mem_docQ {l:List Edge} {mask:Int} {e:Edge}:e∈Zab l mask↔e∈l∧Zh mask e.k=true:=by
 unfold Zab;rw[Zgv,List.mem_filter];simp
theorem Za6 {mask k:Int} (h:Zh mask k=true):1≤k∧k≤3∧Zau mask k=true:=by
 unfold Zh at h;rw[Bool.and_eq_true,Bool.and_eq_true,decide_eq_true_eq,decide_eq_true_eq]at h;exact⟨h.1,h.2.1,h.2.2⟩
theorem Zhz (l:List Edge):∃lo:Int,∀e∈l,lo≤e.f:=by
 induction l with
 |nil=>exact⟨0,fun e he=>by cases he⟩
 |cons a l ih=>
  obtain⟨lo,h⟩:=ih;refine⟨min lo a.f,fun e he=> ?_⟩;rcases List.mem_cons.1 he with rfl|he
  ·omega
  ·have:=h e he;omega
theorem Short.mem {D D':List HArc} {must:Int} {need:Bool} {v:Int} {c:List HArc} (h:Short D must need v c) (hD:∀a,a∈D↔a∈D'):Short D' must need v c:=
 h.less (fun a ha=>(hD a).2 ha) (fun a ha=>(hD a).1 (Zbb h.w a ha))
theorem NoWay.mem {D D':List HArc} {must:Int} {need:Bool} (h:NoWay D must need) (hD:∀a,a∈D'→a∈D):NoWay D' must need:=
 fun u c' n1 n2 n3=>h u c' n1 (ZcF hD (Int.le_refl _) n2) n3
section
variable {l:List Edge} {mask must:Int}
theorem Zef (a:HArc):a∈(Zab l mask).map Edge.arc↔a∈(l.filter fun e=>Zh mask e.k).map Edge.arc:=by
 rw[←ZkJ a,ZdC,ZdC,mem_docQ,List.mem_filter]
theorem ZiZ {v:Int} {c:List HArc} (h:Short ((l.filter fun e=>Zh mask e.k).map Edge.arc) must (Z3 must) v c):(Zbi l mask must).map Edge.arc=c:=by
 have h2:=h.mem (fun a=>(Zef (l:=l) (mask:=mask) a).symm);obtain⟨lo,hlo⟩:=Zhz (Zab l mask);have hk:∀e∈Zab l mask,1≤e.k∧e.k≤3:=fun e he=>⟨(Za6 (mem_docQ.1 he).2).1,(Za6 (mem_docQ.1 he).2).2.1⟩
 have hF:=Zh5 (ids:=ZaB [] (Zab l mask)) (l:=Zab l mask) (most:=2*(ZaB [] (Zab l mask)).length) (Zed _ _ List.Pairwise.nil) hlo hk (Zdh _ _ List.Pairwise.nil) (fun e he=>(Zht _ _ _).2 (.inr ⟨e,he,.inl rfl⟩)) (by omega) h2;have hb:ZcM (Zab l mask) must=(c.length,v):=hF.1;have hc:¬c.length=0:=fun e=>h.ne (List.eq_nil_of_length_eq_zero e)
 unfold Zbi;rw[hb,if_neg hc];exact hF.2
theorem ZjQ (h:NoWay ((l.filter fun e=>Zh mask e.k).map Edge.arc) must (Z3 must)):Zbi l mask must=[]:=by
 have h2:=h.mem (fun a ha=>(Zef (l:=l) (mask:=mask) a).1 ha);obtain⟨lo,hlo⟩:=Zhz (Zab l mask);have hk:∀e∈Zab l mask,1≤e.k∧e.k≤3:=fun e he=>⟨(Za6 (mem_docQ.1 he).2).1,(Za6 (mem_docQ.1 he).2).2.1⟩
 have hb:(ZcM (Zab l mask) must).1=0:=Zfs hlo hk (Zdh _ _ List.Pairwise.nil) _ h2;unfold Zbi;rw[if_pos hb]
end
def ZU (l:List Edge) (mask:Int):List Edge:=l.filter fun e=>Zh mask e.k
def ZeX:List Edge→List Int
 |[]=>[]
 |e::l=>e.f::e.t::ZeX l
theorem ZeS (x:Int):∀l:List Edge,x∈ZeX l↔∃e∈l,x=e.f∨x=e.t
 |[]=>by simp[ZeX]
 |e::l=>by
  show x∈e.f::e.t::ZeX l↔_
  rw[List.mem_cons,List.mem_cons,ZeS x l]
  constructor
  ·rintro(h|h|⟨y,hy,h⟩)
   ·exact⟨e,List.mem_cons_self,.inl h⟩
   ·exact⟨e,List.mem_cons_self,.inr h⟩
   ·exact⟨y,List.mem_cons_of_mem _ hy,h⟩
  ·rintro⟨y,hy,h⟩;rcases List.mem_cons.1 hy with rfl|hy
   ·rcases h with h|h
    ·exact .inl h
    ·exact .inr (.inl h)
   ·exact .inr (.inr ⟨y,hy,h⟩)
def Zaj (D:List Edge):List Int:=Zb0 (ZeX D)
def ZbT (D:List Edge):List Int:=Zb0 (D.map Edge.key)
def ZdK (ids keys:List Int) (N:Nat):List HArc→List Edge→List HArc
 |q,[]=>q
 |q,e::l=>ZdK ids keys N (Ze7 N q (toR ids keys e.arc)) l
theorem Zgw {ids keys:List Int} {N:Nat} (b:HArc):∀(l:List Edge) (q:List HArc),(∀e∈l,ZO N (toR ids keys e.arc)=true)→(b∈ZdK ids keys N q l↔b∈q∨∃e∈l,b=toR ids keys e.arc)
 |[],q,_=>by simp[ZdK]
 |e::l,q,hr=>by
  have h1:b∈Ze7 N q (toR ids keys e.arc)↔b=toR ids keys e.arc∨b∈q:=by
   unfold Ze7;rw[if_pos (hr e List.mem_cons_self)]
   split
   ·rename_i hm
    exact⟨.inr,fun h=>h.elim (fun e=>by rw[e];exact hm) id⟩
   ·exact ZaE _ _ _
  show b∈ZdK ids keys N (Ze7 N q (toR ids keys e.arc)) l↔_
  rw[Zgw b l _ (fun x hx=>hr x (List.mem_cons_of_mem _ hx)),h1]
  constructor
  ·rintro((h|h)|⟨y,hy,h⟩)
   ·exact .inr ⟨e,List.mem_cons_self,h⟩
   ·exact .inl h
   ·exact .inr ⟨y,List.mem_cons_of_mem _ hy,h⟩
  ·rintro(h|⟨y,hy,h⟩)
   ·exact .inl (.inr h)
   ·rcases List.mem_cons.1 hy with rfl|hy
    ·exact .inl (.inl h)
    ·exact .inr ⟨y,hy,h⟩
section
variable {D:List Edge}
theorem ZhJ {e:Edge} (he:e∈D):e.f∈Zaj D∧e.t∈Zaj D:=⟨(Zbw _ _).2 ((ZeS _ _).2 ⟨e,he,.inl rfl⟩),(Zbw _ _).2 ((ZeS _ _).2 ⟨e,he,.inr rfl⟩)⟩
theorem ZgC {e:Edge} (he:e∈D):e.key∈ZbT D:=(Zbw _ _).2 (List.mem_map.2 ⟨e,he,rfl⟩)
theorem Zge (hk:∀e∈D,1≤e.k∧e.k≤3) (hl:D.length≤100000) {e:Edge} (he:e∈D):ZO (Zaj D).length (toR (Zaj D) (ZbT D) e.arc)=true:=by
 rw[ZbL];have h1:=ZhJ he;have h2:=ZgC he;have f1:=Zcv (Zaj D) e.f;have f2:=Zcv (Zaj D) e.t;have f3:=Zcv (ZbT D) e.key;have g1:=(Zbk (ZbZ (ZeX D)) h1.1).1;have g2:=(Zbk (ZbZ (ZeX D)) h1.2).1;have g3:=(Zbk (ZbZ (D.map Edge.key)) h2).1;have k:=hk e he
 have hkl:(ZbT D).length≤D.length:=by
  have:=Zj8 (D.map Edge.key)
  rwa [List.length_map]at this
 exact⟨f1.1,g1,f2.1,g2,k.1,k.2,f3.1,by
  have g3':rk (ZbT D) e.key<((ZbT D).length:Int):=g3
  show rk (ZbT D) e.key≤1048575
  omega⟩
theorem Znc (hk:∀e∈D,1≤e.k∧e.k≤3) (hl:D.length≤100000):Rk (D.map Edge.arc) (Zaj D) (ZbT D) (ZdK (Zaj D) (ZbT D) (Zaj D).length [] D):=by
 refine⟨ZbZ _,ZbZ _,fun a ha=> ?_,fun a ha=> ?_,fun b=> ?_⟩
 ·obtain⟨e,he,rfl⟩:=List.mem_map.1 ha;exact ZhJ he
 ·obtain⟨e,he,rfl⟩:=List.mem_map.1 ha;exact ZgC he
 ·rw[Zgw b D [] (fun e he=>Zge hk hl he)]
  constructor
  ·rintro(h|⟨e,he,h⟩)
   ·cases h
   ·exact⟨e.arc,List.mem_map.2 ⟨e,he,rfl⟩,h⟩
  ·rintro⟨a,ha,h⟩;obtain⟨e,he,rfl⟩:=List.mem_map.1 ha;exact .inr ⟨e,he,h⟩
end
theorem ZlJ (l:List Edge) (mask must:Int) (hl:l.length≤100000):(Zbi l mask must=[]∧NoWay ((ZU l mask).map Edge.arc) must (Z3 must))∨∃v,Short ((ZU l mask).map Edge.arc) must (Z3 must) v ((Zbi l mask must).map Edge.arc):=by
 have hkD:∀e∈ZU l mask,1≤e.k∧e.k≤3:=fun e he=>by
  have:=Za6 (List.mem_filter.1 he).2;exact⟨this.1,this.2.1⟩
 have hlD:(ZU l mask).length≤100000:=Nat.le_trans (List.length_filter_le _ _) hl;have hR:=Znc hkD hlD;obtain⟨q,hq⟩:∃q,(ZdK (Zaj (ZU l mask)) (ZbT (ZU l mask)) (Zaj (ZU l mask)).length [] (ZU l mask))=q:=⟨_,rfl⟩;rw[hq]at hR
 have hs:Zak q:=by
  rw[←hq]
  have:∀(m:List Edge) (q:List HArc),Zak q→Zak (ZdK (Zaj (ZU l mask)) (ZbT (ZU l mask)) (Zaj (ZU l mask)).length q m):=by
   intro m
   induction m with
   |nil=>exact fun q h=>h
   |cons e m ih=>
    intro q h;refine ih _ ?_;unfold Ze7
    split
    ·split
     ·exact h
     ·exact Zch _ _ h
    ·exact h
  exact this _ _ List.Pairwise.nil
 have hr:∀a∈q,ZO (Zaj (ZU l mask)).length a=true:=fun a ha=>by
  obtain⟨b,hb,rfl⟩:=(hR.mq a).1 ha;obtain⟨e,he,rfl⟩:=List.mem_map.1 hb;exact Zge hkD hlD he
 have hof:ofA 14 q=q:=by
  unfold ofA;rw[List.filter_eq_self];intro a ha;obtain⟨b,hb,rfl⟩:=(hR.mq a).1 ha;obtain⟨e,he,rfl⟩:=List.mem_map.1 hb;obtain⟨j,hj,hj2⟩:=ZcI (hkD e he).1 (hkD e he).2
  show Zau 14 e.k=true
  rw[hj];rcases hj2 with rfl|rfl|rfl<;>rfl
 have hb:=Zi1 hr hs 14 must (Z3 must) (fun i=>if 0≤i∧i<((Zaj (ZU l mask)).length:Int) then ZbK (ofA 14 q) must i (Ze6 (Zaj (ZU l mask)).length q 14 i) (Zcd (Zaj (ZU l mask)).length q 14 must i) (Z3 must) else 0)
  (fun i=>Za7 (ofA 14 q) must i (Ze6 (Zaj (ZU l mask)).length q 14 i) (Zcd (Zaj (ZU l mask)).length q 14 must i) (if 0≤i∧i<((Zaj (ZU l mask)).length:Int) then ZbK (ofA 14 q) must i (Ze6 (Zaj (ZU l mask)).length q 14 i) (Zcd (Zaj (ZU l mask)).length q 14 must i) (Z3 must) else 0).toNat i (Z3 must))
  (fun i h0 h1=>if_pos ⟨h0,h1⟩) (fun i _ h1=>if_neg (fun e=>by omega)) (fun i h1=>if_neg (fun e=>by omega)) (fun i _ _=>rfl)
 rw[hof]at hb;rcases hb with ⟨_,h⟩|⟨v,h0,h1,h⟩
 ·have h3:=hR.none h;exact .inl ⟨ZjQ h3,h3⟩
 ·have h3:=hR.short h0 h1 h;rw[←ZiZ h3]at h3;exact .inr ⟨_,h3⟩
end
/- Closed walks:the numbers of some edges. -/
section
open Go.RowKit
theorem Zn {A:Option Addr} {n m c d i:Nat} (h:Own (.slice A n c) i):Own (.slice A m d) i:=by
 cases A with
 |none=>cases h
 |some a=>exact h
theorem Zig {W:World} {cs:List Value} {e:TypeId} {n m:Nat} (hn:n=W.heap.size) (hm:cs.length=m):Src (W.alloc (.cells cs.toArray e)) (some ⟨n,0,none⟩) m 1 cs:=by
 subst hn;exact⟨by omega,fun _=>⟨_,rfl,fun j v hj=>Zbu j v hj⟩⟩
end
/- Closed walks:the first of the shortest. -/
section
open Go.RowKit
def ToldC (w:World) (d:List Edge) (e:Ending) (w':World):Prop:=
 ∃A c,e= .returned (.tuple #[.slice A d.length c,.int .i64 (if d.length=0 then 3 else 0)])∧w'.ownsRow w.heap.size 89 4 (.slice A d.length c) d.length (Zu d)∧Upd No w w'
end
/- Closed walks,the document's:edges in order,and their ids. -/
section
open Go.RowKit
theorem ZdS {w:World} {base:Nat} {A:Option Addr} {c:Nat} {l:List Edge} (ho:w.ownsRow base 89 4 (.slice A l.length c) l.length (Zu l)):Walk (Own (.slice A l.length c)) w A l:=
 Recs.of_own (rows:=l.map Edge.cells) Za5 (by omega) ho
set_option maxRecDepth 100000 in
set_option maxHeartbeats 2000000 in
theorem Zm5 (F:Nat→Prop) (w:World) (A:Option Addr) (c:Nat) (l:List Edge) (h:Walk F w A l) (hl:l.length≤100000):
  Calls Try.prog 77 #[.slice A l.length c] w (ZfR w (ZaW [] l)):=by
 have HA:=Qh h;obtain⟨R,hR⟩:∃R,ZaW [] l=R:=⟨_,rfl⟩;rw[hR];have HR:=Qh hR;clear h hR
 go_enter Try.func77,Try.ntmps77
 go_wp2
 go_loopg [3,8] l.length (fun gk s i wr=>∃(k:Nat) (A5:Option Addr) (c5:Nat) (xs:List Edge),k+gk=l.length∧i= .int .i64 k∧s= .slice A5 xs.length c5∧Hid (ZaW xs (l.drop k)=R)∧xs.length≤k∧
  wr.ownsRow w.heap.size 89 4 (.slice A5 xs.length c5) xs.length (Zu xs)∧Upd No w wr)
 case atStart=>exact⟨0,none,0,[],by omega,rfl,rfl,HR,by simp,World.ownsRow_nil _ _ _ _,Upd.refl _ _⟩
 case round=>
  obtain⟨k,A5,c5,xs,hgk,rfl,rfl,hs,hxl,hown,hu⟩:=hrel
  by_cases hlt:k<l.length
  ·obtain⟨ax,rfl,q0,q1,q2,q3⟩:=(HA.out.upd hu (fun _ _=>id)).at_ hlt;obtain⟨x,hx⟩:∃x,l[k]=x:=⟨_,rfl⟩;have hdr:=List.drop_eq_getElem_cons hlt;rw[hx]at q0 q1 q2 q3 hdr;have HS:=Qh (show ZaW (ZaD x xs) (l.drop (k+1))=R by rw[←hs.out,hdr];rfl);have i1:(0:Int)≤(k:Int):=Qn _;have i2:(k:Int)<(l.length:Int):=by omega
   have hpl:=ZgH x xs;obtain⟨wx,hwx⟩:∃wx,wr.alloc (.cells #[.int .i64 x.f,.int .i64 x.t,.int .i64 x.k,.int .i64 x.key] 89)=wx:=⟨_,rfl⟩;have ux:Upd No wr wx:=by rw[←hwx];exact(Upd.refl No wr).alloc _
   have bo:Blk wx wr.heap.size 89 [.int .i64 x.f,.int .i64 x.t,.int .i64 x.k,.int .i64 x.key]:=by rw[←hwx];exact Blk.new wr _ _
   have g0:=bo.cell 0;have g1:=bo.cell 1;have g2:=bo.cell 2;have g3:=bo.cell 3;simp only[Qz,Qs]at g0 g1 g2 g3;have HC:=Qh (Zkn x xs▸Znh _ wx A5 c5 xs x (ZdS (Zc hown ux (fun _ _=>id))) (by omega));have HUX:=Qh (hu.trans ux);unfold Edge.cells at HC;clear hs hdr hx ux bo hown
   go_wp2_with fail
   refine(HC.out).mono ?_;rintro e w2 ⟨A6,c6,rfl,ho6,hu6⟩;have HO6:=Qh (Z1 ho6 HUX.out.size);have HU6:=Qh (HUX.out.trans hu6);clear ho6 hu6 HC;go_wp2
   go_roundg (gk-1)
   case measure=>omega
   case rel=>exact⟨k+1,A6,c6,_,by omega,by go_num,rfl,HS,by omega,HO6.out,HU6.out⟩
  ·obtain rfl:k=l.length:=by omega
   have hxR:xs=R:=by have:=hs.out;rw[List.drop_length]at this;exact this
   have HXR:=Qh hxR;clear hxR hs;go_wp2
   go_ret
   rw[←HXR.out];exact⟨A5,c5,rfl,hown,hu⟩
set_option maxRecDepth 100000 in
set_option maxHeartbeats 2000000 in
theorem ZnO (F:Nat→Prop) (w:World) (A:Option Addr) (c:Nat) (l:List Edge) (h:Walk F w A l) (hl:l.length≤100000):
  Calls Try.prog 79 #[.slice A l.length c] w (ZmM w (ZaB [] l)):=by
 have HA:=Qh h;obtain⟨R,hR⟩:∃R,ZaB [] l=R:=⟨_,rfl⟩;rw[hR];have HR:=Qh hR;clear h hR
 go_enter Try.func79,Try.ntmps79
 go_wp2
 go_loopg [3,8] l.length (fun gk s i wr=>∃(k:Nat) (A5:Option Addr) (c5:Nat) (xs:List Int),k+gk=l.length∧i= .int .i64 k∧s= .slice A5 xs.length c5∧Hid (ZaB xs (l.drop k)=R)∧xs.length≤2*k∧
  wr.ownsRow w.heap.size 3 1 (.slice A5 xs.length c5) xs.length (xs.map (Value.int .i64))∧Upd No w wr)
 case atStart=>exact⟨0,none,0,[],by omega,rfl,rfl,HR,by simp,World.ownsRow_nil _ _ _ _,Upd.refl _ _⟩
 case round=>
  obtain⟨k,A5,c5,xs,hgk,rfl,rfl,hs,hxl,hown,hu⟩:=hrel
  by_cases hlt:k<l.length
  ·obtain⟨ax,rfl,q0,q1,q2,q3⟩:=(HA.out.upd hu (fun _ _=>id)).at_ hlt;obtain⟨x,hx⟩:∃x,l[k]=x:=⟨_,rfl⟩;have hdr:=List.drop_eq_getElem_cons hlt;rw[hx]at q0 q1 q2 q3 hdr;have HS:=Qh (show ZaB (Zd x.t (Zd x.f xs)) (l.drop (k+1))=R by rw[←hs.out,hdr];rfl);have i1:(0:Int)≤(k:Int):=Qn _;have i2:(k:Int)<(l.length:Int):=by omega
   have hp1:=Zk x.f xs;have hp2:=Zk x.t (Zd x.f xs);obtain⟨wx,hwx⟩:∃wx,wr.alloc (.cells #[.int .i64 x.f,.int .i64 x.t,.int .i64 x.k,.int .i64 x.key] 89)=wx:=⟨_,rfl⟩;have ux:Upd No wr wx:=by rw[←hwx];exact(Upd.refl No wr).alloc _
   have bo:Blk wx wr.heap.size 89 [.int .i64 x.f,.int .i64 x.t,.int .i64 x.k,.int .i64 x.key]:=by rw[←hwx];exact Blk.new wr _ _
   have g0:∀W,Upd No wx W→W.cell? ⟨wr.heap.size,0,none⟩=some (.int .i64 x.f):=fun W u=>by have:=(bo.upd u id).cell 0;simpa using this
   have g1:∀W,Upd No wx W→W.cell? ⟨wr.heap.size,1,none⟩=some (.int .i64 x.t):=fun W u=>by have:=(bo.upd u id).cell 1;simpa using this
   have HP:=Qh (fun(W:World) (u:Upd No wx W)=>Zhd _ W A5 c5 xs x.f (Ints.of_owned (Zc hown (ux.trans u) (fun _ _=>id))) (by omega));have HP2:=Qh (fun(W:World) (A:Option Addr) (c:Nat) (ho:Ints (fun _=>True) W A (Zd x.f xs))=>Zhd _ W A c (Zd x.f xs) x.t ho (by omega));have HUX:=Qh (hu.trans ux);clear hs hdr hx ux bo hown
   go_wp2_with fail
   refine wp_region_noPanic ?_;refine wp_region_held_drew (S:=(fun W'=>Upd No wx W')) (by kernel_rfl) ?_ (fun hHeld=> ?_)
   ·(first|exact(Upd.refl No _).drew|exact hHeld.trans hu6|exact hHeld.trans hu8)
   refine wpK 0 rfl ?_;refine wpK 1 rfl ?_;refine wpK 2 rfl ?_;refine wpK 4 rfl ?_;refine wpK 5 rfl ?_;refine wpR [3] ?_;refine wpC rfl (fun K hK=> ?_) AllReadyH.nil;go_simp
   (first
  |(go_at_call 84;refine(HP.out _ hHeld).mono ?_;rintro e w6 ⟨A6,c6,rfl,ho6,hu6⟩;have hz6:wx.heap.size≤w6.heap.size:=Nat.le_trans (Upd.size hHeld) hu6.size))
   try (go_wp2_with fail)
   refine hK.out _ _ ?_ (fun hHeld=> ?_)
   ·(first|exact(Upd.refl No _).drew|exact hHeld.trans hu6|exact hHeld.trans hu8)
   clear hK K
   try simp only[Act.put,sT,sS,sZ]
   refine wpR [6] ?_;refine wpC rfl (fun K hK=> ?_) AllReadyH.nil;go_simp
   (first
  |(go_at_call 84;refine(HP2.out _ A6 c6 ((Ints.of_owned ho6).weak (fun _ _ _=>trivial))).mono ?_;rintro e w8 ⟨A8,c8,rfl,ho8,hu8⟩))
   try (go_wp2_with fail)
   refine hK.out _ _ ?_ (fun hHeld=> ?_)
   ·(first|exact(Upd.refl No _).drew|exact hHeld.trans hu6|exact hHeld.trans hu8)
   clear hK K
   try simp only[Act.put,sT,sS,sZ]
   refine wpK 7 rfl ?_;refine wpD (NoPanic.normal ?_);have HO8:=Qh (Z1 ho8 (Nat.le_trans HUX.out.size hz6));have HU8:=Qh (HUX.out.trans hHeld);clear ho8 ho6 hu6 hu8 hHeld HP HP2;go_wp2
   go_roundg (gk-1)
   case measure=>omega
   case rel=>exact⟨k+1,A8,c8,_,by omega,by go_num,rfl,HS,by omega,HO8.out,HU8.out⟩
  ·obtain rfl:k=l.length:=by omega
   have hxR:xs=R:=by have:=hs.out;rw[List.drop_length]at this;exact this
   have HXR:=Qh hxR;clear hxR hs;go_wp2
   go_ret
   rw[←HXR.out];exact⟨A5,c5,rfl,hown,hu⟩
end
/- Closed walks,the document's:the ids from which so many steps lead to one. -/
section
open Go.RowKit
theorem Zgh:SlT Try.prog 123 50 1 24:=SlT.mk_ Try.underlying123 (z:= .slice none 0 0) (by kernel_rfl) rfl (by omega)
theorem ZcD {a n c i:Nat} (e:Own (.slice (some ⟨a,0,none⟩) n c) i):a=i:=by simpa[Own,Value.ownBlock]using e
def RowOk (F:Nat→Prop) (w:World) (v:Value) (l:List Int):Prop:=∃B c,v= .slice B l.length c∧Ints F w B l
theorem RowOk.upd {F S:Nat→Prop} {w w':World} {v:Value} {l:List Int} (h:RowOk F w v l) (u:Upd S w w') (hn:∀i,F i→¬S i):RowOk F w' v l:=by
 obtain⟨B,c,e,h⟩:=h;exact⟨B,c,e,h.upd u hn⟩
theorem RowOk.weak {F G:Nat→Prop} {w:World} {v:Value} {l:List Int} (h:RowOk F w v l) (hg:∀i,i<w.heap.size→F i→G i):RowOk G w v l:=by
 obtain⟨B,c,e,h⟩:=h;exact⟨B,c,e,h.weak hg⟩
structure RowsOk (F:Nat→Prop) (w:World) (vs:List Value) (f:Nat→List Int):Prop where
 ok:∀(j:Nat) (h:j<vs.length),RowOk F w vs[j] (f j)
theorem RowsOk.upd {F S:Nat→Prop} {w w':World} {vs:List Value} {f:Nat→List Int} (h:RowsOk F w vs f) (u:Upd S w w') (hn:∀i,F i→¬S i):RowsOk F w' vs f:=⟨fun j hj=>(h.ok j hj).upd u hn⟩
theorem RowsOk.weak {F G:Nat→Prop} {w:World} {vs:List Value} {f:Nat→List Int} (h:RowsOk F w vs f) (hg:∀i,i<w.heap.size→F i→G i):RowsOk G w vs f:=⟨fun j hj=>(h.ok j hj).weak hg⟩
theorem RowsOk.app {F:Nat→Prop} {w:World} {vs:List Value} {f:Nat→List Int} {v:Value} (h:RowsOk F w vs f) (k:RowOk F w v (f vs.length)):RowsOk F w (vs++[v]) f:=⟨fun j hj=>by
 rw[List.length_append,List.length_singleton]at hj
 by_cases h1:j<vs.length
 ·rw[List.getElem_append_left h1];exact h.ok j h1
 ·have h2:j=vs.length:=by omega
  subst h2;rw[List.getElem_append_right (Nat.le_refl _)]
  simpa using k⟩
structure RowsAt (w:World) (A:Option Addr) (n:Nat) (f:Nat→List Int):Prop where
 at_:∀j,j<n→∃ad B c,A=some ad∧w.cell? (ad.add j)=some (.slice B (f j).length c)∧Ints (fun _=>True) w B (f j)
theorem RowsAt.upd {w w':World} {A:Option Addr} {n:Nat} {f:Nat→List Int} (h:RowsAt w A n f) (u:Upd No w w'):RowsAt w' A n f:=⟨fun j hj=>by
 obtain⟨ad,B,c,e,h1,h2⟩:=h.at_ j hj;exact⟨ad,B,c,e,u.keepNo h1,h2.upd u (fun _ _=>id)⟩⟩
theorem Zcu {w:World} {base:Nat} {A:Option Addr} {n c:Nat} {vs:List Value} {F:Nat→Prop} {f:Nat→List Int} (ho:w.ownsRow base 50 1 (.slice A n c) n vs) (hv:vs.length=n) (h:RowsOk F w vs f):RowsAt w A n f:=⟨fun j hj=>by
 obtain⟨g,cur,rfl,hgb,hB,hnc,hcl,hct,hcm⟩:=Zlx ho (by omega);obtain⟨B,c',e,hi⟩:=h.ok j (by omega);refine⟨_,B,c',rfl,?_,hi.weak (fun _ _ _=>trivial)⟩;rw[ZlB,Nat.zero_add,hB.cell];have h1:(cur.take (n*1))[j]? =some (.slice B (f j).length c'):=by rw[hct,Qg (by omega),e]
 rw[List.getElem?_take]at h1
 split at h1
 ·exact h1
 ·cases h1⟩
structure BackAt (w:World) (v:Value) (steps:Nat) (f:Nat→List Int×List Int):Prop where
 is_:∃A1 c1 A2 c2,v= .agg #[.slice A1 (steps+1) c1,.slice A2 (steps+1) c2]∧RowsAt w A1 (steps+1) (fun j=>(f j).1)∧RowsAt w A2 (steps+1) (fun j=>(f j).2)
theorem Zgk (must:Int) (l:List Edge) (tgt:Int):∀n,(Zf must l tgt n).1.length≤2*l.length+1∧(Zf must l tgt n).2.length≤2*l.length+1:=by
 have h:∀(pa pn:List Int) (m:List Edge) (a b:List Int),(ZI must pa pn a b m).1.length≤a.length+2*m.length∧(ZI must pa pn a b m).2.length≤b.length+2*m.length:=by
  intro pa pn m
  induction m with
  |nil=>intro a b;simp[ZI]
  |cons e m ih=>
   intro a b;have h1:=ih (Zbm pa a e) (Zbl must pa pn b e)
   have h2:(Zbm pa a e).length≤a.length+1:=by
    unfold Zbm
    split
    ·exact Zk _ _
    ·omega
   have h3:∀x:List Int,(if (decide (e.t∈pa)&&Zh must e.k)=true then Zd e.f x else x).length≤x.length+1:=by
    intro x
    split
    ·exact Zk _ _
    ·omega
   have h4:(Zbl must pa pn b e).length≤b.length+2:=by
    unfold Zbl;have:=h3 b
    split
    ·have:=Zk e.f (if (decide (e.t∈pa)&&Zh must e.k)=true then Zd e.f b else b);omega
    ·omega
   show(ZI must pa pn (Zbm pa a e) (Zbl must pa pn b e) m).1.length≤_∧(ZI must pa pn (Zbm pa a e) (Zbl must pa pn b e) m).2.length≤_
   simp only[List.length_cons];omega
 intro n
 cases n with
 |zero=>exact⟨by show[tgt].length≤_;simp,by show([]:List Int).length≤_;simp⟩
 |succ n=>
  have:=h (Zf must l tgt n).1 (Zf must l tgt n).2 l [] [];simp only[List.length_nil]at this
  show(ZI must (Zf must l tgt n).1 (Zf must l tgt n).2 [] [] l).1.length≤_∧(ZI must (Zf must l tgt n).1 (Zf must l tgt n).2 [] [] l).2.length≤_
  omega
end
end Go.Proofs.Ytdbjokfejmgepaa
