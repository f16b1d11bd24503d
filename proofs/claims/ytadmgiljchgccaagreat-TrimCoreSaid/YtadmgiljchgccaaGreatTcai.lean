/- Edges held against one another: by the program and by the document. -/
import Derived.Sort.Grow
import Derived.Lib.SlBytesRow
import Derived.Test.YtadmgiljchgccaaGreatTcae
namespace Go.Proofs.YtadmgiljchgccaaGreat
open Go.RowKit
set_option linter.unusedVariables false
set_option linter.unusedSimpArgs false
set_option maxRecDepth 100000
set_option maxHeartbeats 1000000
def Zw(a b:Int):Int:=if a<b then -1 else if b<a then 1 else 0
theorem ZcJ(a:Int):Zw a a=0:=by unfold Zw;simp
theorem Zdz{a b:Int}(h:a≠b):Zw a b≠0∧decide (Zw a b<0)=decide (a<b):=by
 unfold Zw
 by_cases h1:a<b
 ·simp[h1]
 ·have:b<a:=by omega
  simp[h1,this]
def Zbj(a b:Edge):Int:=if a.f≠b.f then Zw a.f b.f else if a.k≠b.k then Zw a.k b.k else if a.key≠b.key then Zw a.key b.key else Zw a.t b.t
def ltE(a b:Edge):Bool:=if a.f≠b.f then decide (a.f<b.f) else if a.k≠b.k then decide (a.k<b.k) else if a.key≠b.key then decide (a.key<b.key) else decide (a.t<b.t)
theorem Zvu(a b:Edge):decide (Zbj a b<0)=ltE a b:=by
 unfold Zbj ltE
 by_cases h1:a.f≠b.f
 ·rw[if_pos h1,if_pos h1,(Zdz h1).2]
 rw[if_neg h1,if_neg h1]
 by_cases h2:a.k≠b.k
 ·rw[if_pos h2,if_pos h2,(Zdz h2).2]
 rw[if_neg h2,if_neg h2]
 by_cases h3:a.key≠b.key
 ·rw[if_pos h3,if_pos h3,(Zdz h3).2]
 rw[if_neg h3,if_neg h3]
 by_cases h4:a.t=b.t
 ·rw[h4,ZcJ];simp
 ·rw[(Zdz h4).2]
theorem Zhp(w:I0)(n:Int):CE 212 #[Qi n] w (.bool false):=by
 have hb:(n != n)=false:=by simp
 go_enter Tryz.func212,Tryz.ntmps212;go_wp2;go_ret;exact⟨rfl,rfl⟩
theorem ZaX(w:I0)(a b:Int):CE 196 #[Qi a,Qi b] w (Qi (Zw a b)):=by
 by_cases h1:a<b
 ·have H:=Qh (show Zw a b= -1 by unfold Zw;rw[if_pos h1]);go_enter Tryz.func196,Tryz.ntmps196;go_wp2_with fail;refine(Zhp _ _).mono ?_;rintro e w' ⟨rfl,rfl⟩;go_wp2_with fail;refine(Zhp _ _).mono ?_;rintro e w' ⟨rfl,rfl⟩;go_wp2;go_ret;exact⟨by rw[H.out];rfl,rfl⟩
 ·by_cases h2:b<a
  ·have H:=Qh (show Zw a b=1 by unfold Zw;rw[if_neg h1,if_pos h2]);go_enter Tryz.func196,Tryz.ntmps196;go_wp2_with fail;refine(Zhp _ _).mono ?_;rintro e w' ⟨rfl,rfl⟩;go_wp2_with fail;refine(Zhp _ _).mono ?_;rintro e w' ⟨rfl,rfl⟩;go_wp2;go_ret;exact⟨by rw[H.out];rfl,rfl⟩
  ·have H:=Qh (show Zw a b=0 by unfold Zw;rw[if_neg h1,if_neg h2]);go_enter Tryz.func196,Tryz.ntmps196;go_wp2_with fail;refine(Zhp _ _).mono ?_;rintro e w' ⟨rfl,rfl⟩;go_wp2_with fail;refine(Zhp _ _).mono ?_;rintro e w' ⟨rfl,rfl⟩;go_wp2;go_ret;exact⟨by rw[H.out];rfl,rfl⟩
def Grw(w w':I0):Prop:=∃q os',w'=Sort.grow (w.drewN q) os'
theorem Grw.refl(w:I0):Grw w w:=⟨0,#[],by unfold Sort.grow World.drewN;simp⟩
theorem Grw.alloc{w w':I0}(h:Grw w w')(o:Obj):Grw w (w'.alloc o):=by
 obtain⟨q,os',rfl⟩:=h;exact⟨q,os'.push o,by unfold Sort.grow World.drewN World.alloc;simp⟩
theorem Grw.drewN{w w':I0}(h:Grw w w')(n:Nat):Grw w (w'.drewN n):=by
 obtain⟨q,os',rfl⟩:=h;exact⟨q+n,os',by unfold Sort.grow World.drewN;simp[Nat.add_assoc]⟩
theorem ZdC{P:Ix}{f:FuncId}{args:Io}{w:I0}{a n:Nat}{v:Iz}(h:Calls P f args (w.drewN (a+n)) fun e w'=>e= .returned v∧w.drewN (a+n)=w'):
  Calls P f args (w.drewN (a+n)) fun e w'=>e= .returned v∧∃m,w'=w.drewN (a+m):=h.mono fun _ _ h=>⟨h.1,n,h.2.symm⟩
theorem Zqu(w:I0)(x y:Edge):Calls Tryz.prog 190 #[.agg x.cells.toArray,.agg y.cells.toArray] w fun e w'=>e= .returned (Qi (Zbj x y))∧Grw w w':=by
 unfold Edge.cells;have H1:Hid (x.f=y.f->Zw x.f y.f=0):=Qh (fun h=>by rw[h,ZcJ])
 by_cases h1:x.f=y.f
 ·have b1:(Zw x.f y.f != 0)=false:=by rw[h1,ZcJ];rfl
  by_cases h2:x.k=y.k
  ·have b2:(Zw x.k y.k != 0)=false:=by rw[h2,ZcJ];rfl
   by_cases h3:x.key=y.key
   ·have b3:(Zw x.key y.key != 0)=false:=by rw[h3,ZcJ];rfl
    have H:=Qh (show Zbj x y=Zw x.t y.t by unfold Zbj;rw[if_neg (by simpa using h1),if_neg (by simpa using h2),if_neg (by simpa using h3)]);clear h1 h2 h3
    by_cases h4:x.t=y.t
    ·have b4:(Zw x.t y.t != 0)=false:=by rw[h4,ZcJ];rfl
     have H4:=Qh (show Zw x.t y.t=0 by rw[h4,ZcJ]);clear h4;go_enter Tryz.func190,Tryz.ntmps190;go_wp2;refine wp_loop_rounds 5 ?_;rw[rounds_succ];go_wp2
     go_quiet ((go_at_call 196;exact Calls.quiet_of_same ((ZaX _ _ _).mono fun e w' h=>⟨h.1,h.2.symm⟩)))
     go_wp2;rw[rounds_succ];go_wp2
     go_quiet ((go_at_call 196;exact ZdC (ZaX _ _ _)))
     go_wp2;rw[rounds_succ];go_wp2
     go_quiet ((go_at_call 196;exact ZdC (ZaX _ _ _)))
     go_wp2;rw[rounds_succ];go_wp2
     go_quiet ((go_at_call 196;exact ZdC (ZaX _ _ _)))
     go_wp2;rw[rounds_succ];go_wp2;go_ret;exact⟨by rw[H.out,H4.out];rfl,(((((Grw.refl _).alloc _).alloc _).alloc _).alloc _).drewN _⟩
    ·have b4:(Zw x.t y.t != 0)=true:=by rw[bne_iff_ne];exact(Zdz h4).1
     clear h4;go_enter Tryz.func190,Tryz.ntmps190;go_wp2;refine wp_loop_rounds 4 ?_;rw[rounds_succ];go_wp2
     go_quiet ((go_at_call 196;exact Calls.quiet_of_same ((ZaX _ _ _).mono fun e w' h=>⟨h.1,h.2.symm⟩)))
     go_wp2;rw[rounds_succ];go_wp2
     go_quiet ((go_at_call 196;exact ZdC (ZaX _ _ _)))
     go_wp2;rw[rounds_succ];go_wp2
     go_quiet ((go_at_call 196;exact ZdC (ZaX _ _ _)))
     go_wp2;rw[rounds_succ];go_wp2
     go_quiet ((go_at_call 196;exact ZdC (ZaX _ _ _)))
     go_wp2;go_ret;exact⟨by rw[H.out];rfl,(((((Grw.refl _).alloc _).alloc _).alloc _).alloc _).drewN _⟩
   ·have b3:(Zw x.key y.key != 0)=true:=by rw[bne_iff_ne];exact(Zdz h3).1
    have H:=Qh (show Zbj x y=Zw x.key y.key by unfold Zbj;rw[if_neg (by simpa using h1),if_neg (by simpa using h2),if_pos h3]);clear h1 h2 h3;go_enter Tryz.func190,Tryz.ntmps190;go_wp2;refine wp_loop_rounds 3 ?_;rw[rounds_succ];go_wp2
    go_quiet ((go_at_call 196;exact Calls.quiet_of_same ((ZaX _ _ _).mono fun e w' h=>⟨h.1,h.2.symm⟩)))
    go_wp2;rw[rounds_succ];go_wp2
    go_quiet ((go_at_call 196;exact ZdC (ZaX _ _ _)))
    go_wp2;rw[rounds_succ];go_wp2
    go_quiet ((go_at_call 196;exact ZdC (ZaX _ _ _)))
    go_wp2;go_ret;exact⟨by rw[H.out];rfl,(((((Grw.refl _).alloc _).alloc _).alloc _).alloc _).drewN _⟩
  ·have b2:(Zw x.k y.k != 0)=true:=by rw[bne_iff_ne];exact(Zdz h2).1
   have H:=Qh (show Zbj x y=Zw x.k y.k by unfold Zbj;rw[if_neg (by simpa using h1),if_pos h2]);clear h1 h2;go_enter Tryz.func190,Tryz.ntmps190;go_wp2;refine wp_loop_rounds 2 ?_;rw[rounds_succ];go_wp2
   go_quiet ((go_at_call 196;exact Calls.quiet_of_same ((ZaX _ _ _).mono fun e w' h=>⟨h.1,h.2.symm⟩)))
   go_wp2;rw[rounds_succ];go_wp2
   go_quiet ((go_at_call 196;exact ZdC (ZaX _ _ _)))
   go_wp2;go_ret;exact⟨by rw[H.out];rfl,(((((Grw.refl _).alloc _).alloc _).alloc _).alloc _).drewN _⟩
 ·have b1:(Zw x.f y.f != 0)=true:=by rw[bne_iff_ne];exact(Zdz h1).1
  have H:=Qh (show Zbj x y=Zw x.f y.f by unfold Zbj;rw[if_pos h1]);clear h1;go_enter Tryz.func190,Tryz.ntmps190;go_wp2;refine wp_loop_rounds 1 ?_;rw[rounds_succ];go_wp2
  go_quiet ((go_at_call 196;exact Calls.quiet_of_same ((ZaX _ _ _).mono fun e w' h=>⟨h.1,h.2.symm⟩)))
  go_wp2;go_ret;exact⟨by rw[H.out];rfl,(((((Grw.refl _).alloc _).alloc _).alloc _).alloc _).drewN _⟩
/- Walks held against one another,from whichever places they begin. -/
def Zga:List Edge->List Edge->Bool
 |x::xs,y::ys=>if x=y then Zga xs ys else ltE x y
 |_,_=>false
theorem ZnR:∀{xs ys:List Edge} {n:Nat} {x y:Edge},xs.take n=ys.take n->xs[n]? =some x->ys[n]? =some y->x≠y->Zga xs ys=ltE x y
 |a::xs,b::ys,0,x,y,_,hx,hy,hne=>by
  simp only[Qz,Gy]at hx hy;subst hx;subst hy;simp[Zga,hne]
 |a::xs,b::ys,n+1,x,y,h,hx,hy,hne=>by
  simp only[List.take_succ_cons,List.cons.injEq,Qs]at h hx hy;obtain⟨rfl,h⟩:=h;simp only[Zga,if_true];exact ZnR h hx hy hne
 |[],_,n,x,y,_,hx,_,_=>by simp at hx
 |a::xs,[],n,x,y,_,_,hy,_=>by simp at hy
theorem ZkG:∀(xs:List Edge),Zga xs xs=false
 |[]=>rfl
 |x::xs=>by simp[Zga,ZkG xs]
def ZoX(a b:List Edge):Bool:=if a.length=b.length then Zga a b else decide (a.length<b.length)
/- Walks:simple by the program;the bits of their kinds,by the program and by the document. -/
section
variable {α:Type} [DecidableEq α]
theorem Zh5(a:α):∀(m:List (α×Iz)) (i:Nat),look a m i=none↔a∉m.map (·.1)
 |[],i=>by simp[look]
 |p::m,i=>by
  unfold look
  by_cases h:a=p.1
  ·simp[h]
  ·simp only[Id,Ie,h,if_false,false_or];exact Zh5 a m (i+1)
theorem ZqK(m:List (α×Iz))(a:α)(v:Iz):(ZI m a v).map (·.1)=if a∈m.map (·.1) then m.map (·.1) else m.map (·.1)++[a]:=by
 unfold ZI
 cases h:look a m 0 with
 |none=>
  rw[if_neg ((Zh5 a m 0).1 h),Hu];rfl
 |some r=>
  rw[if_pos (by
   rcases Classical.em (a∈m.map (·.1))with h'|h'
   ·exact h'
   ·rw[(Zh5 a m 0).2 h']at h;cases h)]
  apply List.ext_getElem?
  intro j;simp only[List.getElem?_map,List.getElem?_modify]
  cases m[j]? with
  |none=>simp
  |some p=>by_cases hj:r.1=j<;>simp[hj]
end
theorem ZdN:KeyBy Tryz.prog 3 (fun n:Int=>Value.int .i64 n):=KeyBy.int_ Tryz.underlying3
def Zx(a b c:Bool):Int:=(if a then 2 else 0)+(if b then 4 else 0)+(if c then 8 else 0)
def Zba(l:List Edge)(n:Nat)(k:Int):Bool:=(l.take n).any fun e=>e.k==k
def ZcH(l:List Edge):Int:=Zx (Zba l l.length 1) (Zba l l.length 2) (Zba l l.length 3)
theorem Zq9{l:List Edge}{n:Nat}(hn:n<l.length)(k:Int):Zba l (n+1) k=(Zba l n k||l[n].k==k):=by
 unfold Zba;rw[Gb hn,List.any_append];simp
theorem or2(a b c:Bool):bits .or .i64 (Zx a b c) 2=Zx true b c:=by cases a<;>cases b<;>cases c<;>decide
theorem or4(a b c:Bool):bits .or .i64 (Zx a b c) 4=Zx a true c:=by cases a<;>cases b<;>cases c<;>decide
theorem or8(a b c:Bool):bits .or .i64 (Zx a b c) 8=Zx a b true:=by cases a<;>cases b<;>cases c<;>decide
theorem ZwR(F:Iw)(w:I0)(A:OA)(c:Nat)(l:List Edge)(h:Walk F w A l)(hl:l.length<=1000000):
  CN 55 #[.slice A l.length c] w (Qi (ZcH l)):=by
 go_enter Tryz.func55,Tryz.ntmps55;go_wp2
 go_loopg [3,8] l.length (fun gk n i wr=>∃(k:Nat) (N:Int),k+gk=l.length∧i= Qi k∧n= Qi N∧Hid (N=Zx (Zba l k 1) (Zba l k 2) (Zba l k 3))∧Upd No w wr)
 case atStart=>exact⟨0,0,by omega,rfl,rfl,Qh rfl,Il _ _⟩
 case round=>
  obtain⟨k,N,aI,rfl,rfl,hN,hu⟩:=hrel
  by_cases hlt:k<l.length
  ·obtain⟨ad,rfl,c0,c1,c2,c3⟩:=(h.upd hu Qo).at_ hlt;obtain⟨x,hx⟩:=Qe (l[k]);have hs:=fun n=>Zq9 hlt n
   rw[hx]at c0 c1 c2 c3 hs
   by_cases h1:x.k=1
   ·have H:=Qh (show bits .or .i64 N 2=Zx (Zba l (k+1) 1) (Zba l (k+1) 2) (Zba l (k+1) 3) by
     rw[hN.out,hs,hs,hs,h1,or2];simp)
    obtain⟨M,hM⟩:∃M,M=bits .or .i64 N 2:=⟨_,rfl⟩;rw[<-hM]at H;have AC:=hM.symm;rw[h1]at c2;clear hM hs hx h1;go_wp2;go_roundg (gk-1);exact⟨k+1,M,by omega,by go_num,rfl,H,hu.alloc _⟩;omega
   ·by_cases h2:x.k=2
    ·have H:=Qh (show bits .or .i64 N 4=Zx (Zba l (k+1) 1) (Zba l (k+1) 2) (Zba l (k+1) 3) by
      rw[hN.out,hs,hs,hs,h2,or4];simp)
     obtain⟨M,hM⟩:∃M,M=bits .or .i64 N 4:=⟨_,rfl⟩;rw[<-hM]at H;have AC:=hM.symm;rw[h2]at c2;clear hM hs hx h2;go_wp2;go_roundg (gk-1);exact⟨k+1,M,by omega,by go_num,rfl,H,hu.alloc _⟩;omega
    ·by_cases h3:x.k=3
     ·have H:=Qh (show bits .or .i64 N 8=Zx (Zba l (k+1) 1) (Zba l (k+1) 2) (Zba l (k+1) 3) by
       rw[hN.out,hs,hs,hs,h3,or8];simp)
      obtain⟨M,hM⟩:∃M,M=bits .or .i64 N 8:=⟨_,rfl⟩;rw[<-hM]at H;have AC:=hM.symm;rw[h3]at c2;clear hM hs hx h3;go_wp2;go_roundg (gk-1);exact⟨k+1,M,by omega,by go_num,rfl,H,hu.alloc _⟩;omega
     ·have H:=Qh (show N=Zx (Zba l (k+1) 1) (Zba l (k+1) 2) (Zba l (k+1) 3) by
       rw[hN.out,hs,hs,hs,beq_eq_false_iff_ne.2 h1,beq_eq_false_iff_ne.2 h2,beq_eq_false_iff_ne.2 h3];simp)
      by_cases h4:x.k<1
      ·have FM:decide ((1:Int)<=x.k)=false:=Qf (by omega);have CZ:¬(1:Int)<=x.k:=by omega
       clear hs hx h1 h2 h3;go_wp2;go_roundg (gk-1);exact⟨k+1,N,by omega,by go_num,rfl,H,hu.alloc _⟩;omega
      ·have h5:(1:Int)<=x.k:=by omega
       have h6:¬x.k<=3:=by omega
       clear hs hx h1 h2 h3 h4;go_wp2;go_roundg (gk-1);exact⟨k+1,N,by omega,by go_num,rfl,H,hu.alloc _⟩;omega
  ·obtain rfl:k=l.length:=by omega
   have H:Hid (N=ZcH l):=Qh hN.out;go_wp2;go_ret;exact⟨by rw[<-H.out];rfl,hu⟩
/- Digraphs:ends held against one another. -/
structure DEnd where
 kind:Int
 label:Int
 node:Int
deriving DecidableEq
def DEnd.cells(e:DEnd):Ip:=[Qi e.kind,Qi e.label,Qi e.node]
def orI:Iv->Int
 |[]=>0
 |x::l=>if x=0 then orI l else x
theorem ZhX(x:Int)(l:Iv):orI (x::l)=if x=0 then orI l else x:=rfl
theorem ZxG(F:Iw)(w:I0)(A:OA)(c:Nat)(l:Iv)(h:Ints F w A l)(hl:l.length<=1000000):
  CN 227 #[.slice A l.length c] w (Qi (orI l)):=by
 go_enter Tryz.func227,Tryz.ntmps227;go_wp2
 go_loopg [8] l.length (fun gk i wr=>∃k:Nat,k+gk=l.length∧i= Qi k∧Hid (orI (l.drop k)=orI l)∧Upd No w wr)
 case atStart=>exact⟨0,by omega,rfl,Qh rfl,Il _ _⟩
 case round=>
  obtain⟨k,aI,rfl,hs,hu⟩:=hrel
  by_cases hlt:k<l.length
  ·obtain⟨ad,hA,_,_,hc⟩:=(h.upd hu Qo).at_ hlt;obtain⟨y,hy⟩:=Qe (l[k]);rw[hy]at hc;subst hA;have X:=Qh (show l.drop k=y::l.drop (k+1) by rw[<-hy];exact Ge hlt);clear hy;have b1:(0:Int)<=(k:Int):=Qn _;have b2:(k:Int)<(l.length:Int):=by omega
   have am:=hs.out;rw[X.out,ZhX]at am
   by_cases he:y=0
   ·have eO:(y != 0)=false:=by rw[he];rfl
    rw[if_pos he]at am;have HS:=Qh am;clear am he;go_wp2;go_roundg (gk-1);exact⟨k+1,by omega,by go_num,HS,hu⟩;omega
   ·have eO:(y != 0)=true:=by rw[bne_iff_ne];exact he
    rw[if_neg he]at am;have HS:=Qh am;clear am he;go_wp2;go_ret;exact⟨by rw[<-HS.out];rfl,hu⟩
  ·obtain rfl:k=l.length:=by omega
   have HS:=Qh (show(0:Int)=orI l by rw[<-hs.out,G9];rfl);go_wp2;go_ret;exact⟨by rw[<-HS.out];rfl,hu⟩
def Zbb(a b:DEnd):Int:=orI [Zw a.kind b.kind,Zw a.label b.label,Zw a.node b.node]
theorem Ztx(w:I0)(a b:DEnd):CN 182 #[.agg a.cells.toArray,.agg b.cells.toArray] w (Qi (Zbb a b)):=by
 obtain⟨ak,al,an⟩:=a;obtain⟨bk,bl,bn⟩:=b;unfold DEnd.cells;have b1:=(Im w 160 [Qi ak,Qi al,Qi an]).alloc (.cells #[Qi bk,Qi bl,Qi bn] 160);have b2:=Im (w.alloc (.cells #[Qi ak,Qi al,Qi an] 160)) 160 [Qi bk,Qi bl,Qi bn];simp only[Ij]at b2;have uA:=((Il No w).alloc (.cells #[Qi ak,Qi al,Qi an] 160)).alloc (.cells #[Qi bk,Qi bl,Qi bn] 160);obtain⟨wb,ag⟩:=Qe ((w.alloc (.cells #[Qi ak,Qi al,Qi an] 160)).alloc (.cells #[Qi bk,Qi bl,Qi bn] 160));rw[ag]at b1 b2 uA;have a0:∀W,Upd No wb W->W.cell? ⟨w.heap.size,0,none⟩=some (Qi ak):=fun W hW=>(b1.upd hW id).cell 0
 have a1:∀W,Upd No wb W->W.cell? ⟨w.heap.size,1,none⟩=some (Qi al):=fun W hW=>(b1.upd hW id).cell 1
 have a2:∀W,Upd No wb W->W.cell? ⟨w.heap.size,2,none⟩=some (Qi an):=fun W hW=>(b1.upd hW id).cell 2
 have c0:∀W,Upd No wb W->W.cell? ⟨w.heap.size+1,0,none⟩=some (Qi bk):=fun W hW=>(b2.upd hW id).cell 0
 have c1:∀W,Upd No wb W->W.cell? ⟨w.heap.size+1,1,none⟩=some (Qi bl):=fun W hW=>(b2.upd hW id).cell 1
 have c2:∀W,Upd No wb W->W.cell? ⟨w.heap.size+1,2,none⟩=some (Qi bn):=fun W hW=>(b2.upd hW id).cell 2
 have vv:=Qh ag;have UA:=Qh uA;have m5:=ZxG (fun i=>i=wb.heap.size) ((wb.alloc (.cells #[Qi (Zw ak bk),Qi (Zw al bl),Qi (Zw an bn)] 3)).drew) (some ⟨wb.heap.size,0,none⟩) 3 [Zw ak bk,Zw al bl,Zw an bn] (Ints.drew (Zmn (W:=wb) [Zw ak bk,Zw al bl,Zw an bn] 3)) (by simp);have C6:=Qh m5;have HV:Hid (Zbb ⟨ak,al,an⟩ ⟨bk,bl,bn⟩=orI [Zw ak bk,Zw al bl,Zw an bn]):=Qh rfl;clear ag uA b1 b2 m5;go_enter Tryz.func182,Tryz.ntmps182;go_wp2;rw[vv.out];refine wpS (fun w'=>Upd No wb w') ?_ fun jH=>?_
 ·(first|exact(Il No _).drew|exact jH.trans hu3|exact jH.alloc _)
 (iterate 4 refine wpF ?_);refine wpK 5 rfl ?_;refine wpK 6 rfl ?_;refine wpK 7 rfl ?_;refine wpK 8 rfl ?_;refine wpK 10 rfl ?_;refine wpK 11 rfl ?_;refine wpK 12 rfl ?_;refine wpK 13 rfl ?_;refine wpZ 4 rfl fun K hK=>?_;go_simp
 (first
  |(go_at_call 196;refine(ZaX _ _ _).mono ?_;rintro e w3 ⟨rfl,rfl⟩;have hu3:=jH))
 try (go_wp2_with fail)
 refine hK.out _ _ ?_ fun jH=>?_
 ·(first|exact(Il No _).drew|exact jH.trans hu3|exact jH.alloc _)
 try simp only[Qa]
 refine wpZ 9 rfl fun K hK=>?_;go_simp
 (first
  |(go_at_call 196;refine(ZaX _ _ _).mono ?_;rintro e w3 ⟨rfl,rfl⟩;have hu3:=jH))
 try (go_wp2_with fail)
 refine hK.out _ _ ?_ fun jH=>?_
 ·(first|exact(Il No _).drew|exact jH.trans hu3|exact jH.alloc _)
 try simp only[Qa]
 refine wpZ 14 rfl fun K hK=>?_;go_simp
 (first
  |(go_at_call 196;refine(ZaX _ _ _).mono ?_;rintro e w3 ⟨rfl,rfl⟩;have hu3:=jH))
 try (go_wp2_with fail)
 refine hK.out _ _ ?_ fun jH=>?_
 ·(first|exact(Il No _).drew|exact jH.trans hu3|exact jH.alloc _)
 try simp only[Qa]
 refine wpZ 15 rfl fun K hK=>?_;go_simp;refine hK.out _ _ ?_ fun jH=>?_
 ·(first|exact(Il No _).drew|exact jH.trans hu3|exact jH.alloc _)
 try simp only[Qa]
 refine wpZ 16 rfl fun K hK=>?_;go_simp
 (first
  |(go_at_call 227;refine Ck C6.out fun w3 hu3=>?_))
 try (go_wp2_with fail)
 refine hK.out _ _ ?_ fun jH=>?_
 ·(first|exact(Il No _).drew|exact jH.trans hu3|exact jH.alloc _)
 try simp only[Qa]
 refine wpK 17 rfl ?_;refine wpD (Ii ?_);have HU:=Qh (UA.out.trans jH);clear jH;go_wp2;go_ret;exact⟨by rw[HV.out];rfl,HU.out⟩
/- Digraphs:where an end stands among others. -/
def DEnds(F:Iw)(w:I0)(A:OA)(l:List DEnd):Prop:=Recs F w A 3 (l.map DEnd.cells)
theorem DEnds.at_{F:Iw}{w:I0}{A:OA}{l:List DEnd}(h:DEnds F w A l){k:Nat}(hk:k<l.length):∃ad,A=some ad∧
  w.cell? (ad.add (k*3))=some (Qi l[k].kind)∧w.cell? ⟨(ad.add (k*3)).block,(ad.add (k*3)).off+1,none⟩=some (Qi l[k].label)∧
  w.cell? ⟨(ad.add (k*3)).block,(ad.add (k*3)).off+2,none⟩=some (Qi l[k].node):=by
 have dJ:k<(l.map DEnd.cells).length:=by simpa using hk
 obtain⟨ad,e,_,_,hc⟩:=Recs.at_ h dJ;rw[G8]at hc;exact⟨ad,e,by simpa using hc 0 _ rfl,by simpa using hc 1 _ rfl,by simpa using hc 2 _ rfl⟩
theorem DEnds.upd{F S:Iw}{w w':I0}{A:OA}{l:List DEnd}(h:DEnds F w A l)(k:Upd S w w')(hn:∀i,F i->¬S i):DEnds F w' A l:=Recs.upd h k hn
def Zlp(l:List DEnd)(e:DEnd)(p:Nat):Prop:=p<=l.length∧∀k (hk:k<l.length),(Zbb l[k] e<0↔k<p)
def Zh7(l:List DEnd)(e:DEnd)(p:Nat):Bool:=match l[p]? with|some x=>Zbb x e==0|none=>false
theorem Zue(F:Iw)(w:I0)(A:OA)(c:Nat)(l:List DEnd)(e:DEnd)(p:Nat)(h:DEnds F w A l)(hl:l.length<=1000000)(hp:Zlp l e p):
  Calls Tryz.prog 181 #[.slice A l.length c,.agg e.cells.toArray,.func (.func 182) #[] #[]] w fun r w'=>r= .returned (.tuple #[Qi (p:Int),.bool (Zh7 l e p)])∧Upd No w w':=by
 obtain⟨ek,el,en⟩:=e;unfold DEnd.cells;have bE:=Qh (Im w 160 [Qi ek,Qi el,Qi en]);have u0:=(Il No w).alloc (.cells #[Qi ek,Qi el,Qi en] 160);have U0:=Qh u0;have hc:∀W (x:DEnd),Calls Tryz.prog 182 #[.agg #[Qi x.kind,Qi x.label,Qi x.node],.agg #[Qi ek,Qi el,Qi en]] W fun r w'=>r= .returned (Qi (Zbb x ⟨ek,el,en⟩))∧Upd No W w':=fun W x=>Ztx W x ⟨ek,el,en⟩
 have HC:=Qh hc;have HP:=Qh hp.2;have dh:=hp.1;clear u0 hc hp;go_enter Tryz.func181,Tryz.ntmps181;go_wp2
 go_loopg [9,10] l.length (fun gk s9 s10 wr=>∃i j:Nat,i+gk=j∧s9= Qi i∧s10= Qi j∧i<=p∧p<=j∧j<=l.length∧Upd No (w.alloc (.cells #[Qi ek,Qi el,Qi en] 160)) wr)
 case atStart=>exact⟨0,l.length,by omega,rfl,rfl,by omega,by omega,by omega,Il _ _⟩
 case round=>
  obtain⟨i,j,aI,rfl,rfl,hi,hj,nX,hu⟩:=hrel;have e0:∀W,Upd No wr W->W.cell? ⟨w.heap.size,0,none⟩=some (Qi ek):=fun W hW=>(bE.out.upd (hu.trans hW) id).cell 0
  have e1:∀W,Upd No wr W->W.cell? ⟨w.heap.size,1,none⟩=some (Qi el):=fun W hW=>(bE.out.upd (hu.trans hW) id).cell 1
  have e2:∀W,Upd No wr W->W.cell? ⟨w.heap.size,2,none⟩=some (Qi en):=fun W hW=>(bE.out.upd (hu.trans hW) id).cell 2
  have hr:Upd No wr wr:=Il _ _
  by_cases hlt:i<j
  ·have b1:(i:Int)<(j:Int):=by omega
   have b2:(0:Int)<=(i:Int):=Qn _;have b3:(j:Int)<=1000000:=by omega
   obtain⟨m,hm⟩:=Qe ((i+j)/2:Nat);have pu:((i:Int)+(j:Int))/2=(m:Int):=by omega
   have cd:i<=m:=by omega
   have bh:m<j:=by omega
   have ej:m<l.length:=by omega
   have b4:(0:Int)<=(m:Int):=Qn _;have b5:(m:Int)<(l.length:Int):=by omega
   obtain⟨ad,hA,_⟩:=(h.upd (U0.out.trans hu) Qo).at_ ej;have hq:=fun W (hW:Upd No wr W)=>(h.upd (U0.out.trans (hu.trans hW)) Qo).at_ ej
   obtain⟨x,hx⟩:=Qe (l[m]);rw[hx]at hq
   have q0:∀W,Upd No wr W->W.cell? (ad.add (m*3))=some (Qi x.kind):=fun W hW=>by
    obtain⟨ad',e,c0,_⟩:=hq W hW;rw[hA]at e
    cases e
    exact c0
   have q1:∀W,Upd No wr W->W.cell? ⟨(ad.add (m*3)).block,(ad.add (m*3)).off+1,none⟩=some (Qi x.label):=fun W hW=>by
    obtain⟨ad',e,_,c1,_⟩:=hq W hW;rw[hA]at e
    cases e
    exact c1
   have q2:∀W,Upd No wr W->W.cell? ⟨(ad.add (m*3)).block,(ad.add (m*3)).off+2,none⟩=some (Qi x.node):=fun W hW=>by
    obtain⟨ad',e,_,_,c2⟩:=hq W hW;rw[hA]at e
    cases e
    exact c2
   have jR:=HP.out m ej;rw[hx]at jR;subst hA;clear hq hx hm
   by_cases hlt2:Zbb x ⟨ek,el,en⟩<0
   ·have xU:=jR.1 hlt2;have hd:decide (Zbb x ⟨ek,el,en⟩<0)=true:=Qt hlt2;clear jR hlt2;go_wp2;refine wpS (fun w'=>Upd No wr w') ?_ fun jH=>?_
    ·(first|exact(Il No _).drew|exact jH.trans hu3)
    (iterate 6 refine wpF ?_);refine wpZ 6 rfl fun K hK=>?_;go_simp
    (first
  |(go_at_call 182;refine Ck (HC.out _ x) fun w3 hu3=>?_))
    try (go_wp2_with fail)
    refine hK.out _ _ ?_ fun jH=>?_
    ·(first|exact(Il No _).drew|exact jH.trans hu3)
    try simp only[Qa]
    refine wpK 7 rfl ?_;refine wpD (Ii ?_);have HU:=Qh (hu.trans jH);clear jH q0 q1 q2 e0 e1 e2;go_wp2;go_roundg (j-(m+1))
    case measure=>omega
    case rel=>exact⟨m+1,j,by omega,by go_num,rfl,by omega,by omega,by omega,HU.out⟩
   ·have xU:¬m<p:=fun e=>hlt2 (jR.2 e)
    have hd:decide (Zbb x ⟨ek,el,en⟩<0)=false:=Qf hlt2;clear jR hlt2;go_wp2;refine wpS (fun w'=>Upd No wr w') ?_ fun jH=>?_
    ·(first|exact(Il No _).drew|exact jH.trans hu3)
    (iterate 6 refine wpF ?_);refine wpZ 6 rfl fun K hK=>?_;go_simp
    (first
  |(go_at_call 182;refine Ck (HC.out _ x) fun w3 hu3=>?_))
    try (go_wp2_with fail)
    refine hK.out _ _ ?_ fun jH=>?_
    ·(first|exact(Il No _).drew|exact jH.trans hu3)
    try simp only[Qa]
    refine wpK 7 rfl ?_;refine wpD (Ii ?_);have HU:=Qh (hu.trans jH);clear jH q0 q1 q2 e0 e1 e2;go_wp2;go_roundg (m-i);exact⟨i,m,by omega,rfl,by go_num,by omega,by omega,by omega,HU.out⟩;omega
  ·have pC:i=p:=by omega
   have zf:j=p:=by omega
   subst pC;subst zf
   by_cases hpn:j<l.length
   ·obtain⟨ad,hA,_⟩:=(h.upd (U0.out.trans hu) Qo).at_ hpn;have hq:=fun W (hW:Upd No wr W)=>(h.upd (U0.out.trans (hu.trans hW)) Qo).at_ hpn
    obtain⟨x,hx⟩:=Qe (l[j]);rw[hx]at hq
    have q0:∀W,Upd No wr W->W.cell? (ad.add (j*3))=some (Qi x.kind):=fun W hW=>by
     obtain⟨ad',e,c0,_⟩:=hq W hW;rw[hA]at e
     cases e
     exact c0
    have q1:∀W,Upd No wr W->W.cell? ⟨(ad.add (j*3)).block,(ad.add (j*3)).off+1,none⟩=some (Qi x.label):=fun W hW=>by
     obtain⟨ad',e,_,c1,_⟩:=hq W hW;rw[hA]at e
     cases e
     exact c1
    have q2:∀W,Upd No wr W->W.cell? ⟨(ad.add (j*3)).block,(ad.add (j*3)).off+2,none⟩=some (Qi x.node):=fun W hW=>by
     obtain⟨ad',e,_,_,c2⟩:=hq W hW;rw[hA]at e
     cases e
     exact c2
    have HV:=Qh (show Zh7 l ⟨ek,el,en⟩ j=(Zbb x ⟨ek,el,en⟩==0) by unfold Zh7;rw[Qg hpn,hx]);have b1:(j:Int)<(l.length:Int):=by omega
    have b2:(0:Int)<=(j:Int):=Qn _;have yZ:decide (j<l.length)=true:=Qt hpn;have od:¬(j:Int)<(j:Int):=by omega
    subst hA;clear hq hx;go_wp2;refine wpS (fun w'=>Upd No wr w') ?_ fun jH=>?_
    ·(first|exact(Il No _).drew|exact jH.trans hu3)
    (iterate 11 refine wpF ?_);refine wpZ 11 rfl fun K hK=>?_;go_simp
    (first
  |(go_at_call 182;refine Ck (HC.out _ x) fun w3 hu3=>?_))
    try (go_wp2_with fail)
    refine hK.out _ _ ?_ fun jH=>?_
    ·(first|exact(Il No _).drew|exact jH.trans hu3)
    try simp only[Qa]
    (iterate 4 refine wpF ?_);refine wpD (Ii ?_);have HU:=Qh (U0.out.trans (hu.trans jH));clear jH;go_wp2;go_ret2;exact⟨by rw[HV.out];rfl,HU.out⟩
   ·have HV:=Qh (show Zh7 l ⟨ek,el,en⟩ j=false by unfold Zh7;rw[List.getElem?_eq_none (by omega)]);have b1:¬(j:Int)<(l.length:Int):=by omega
    have yZ:decide (j<l.length)=false:=Qf hpn;have od:¬(j:Int)<(j:Int):=by omega
    clear hpn;go_wp2;refine wpS (fun w'=>Upd No wr w') ?_ fun jH=>?_
    ·(first|exact(Il No _).drew|exact jH.trans hu3)
    (iterate 11 refine wpF ?_);refine wpZ 11 rfl fun K hK=>?_;go_simp;refine hK.out _ _ ?_ fun jH=>?_
    ·exact jH
    try simp only[Qa]
    (iterate 4 refine wpF ?_);refine wpD (Ii ?_);have HU:=Qh (U0.out.trans (hu.trans jH));clear jH;go_wp2;go_ret2;exact⟨by rw[HV.out];rfl,HU.out⟩
/- The document on one transaction:what it needs of others. -/
/- A walk's text:the document's. -/
def Edge.ok(e:Edge):Prop:=(-9223372036854775808<=e.f∧e.f<=9223372036854775807)∧(-9223372036854775808<=e.t∧e.t<=9223372036854775807)∧(-9223372036854775808<=e.key∧e.key<=9223372036854775807)
abbrev Iq:=List DEnd
