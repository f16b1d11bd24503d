/- A walk's text: the program's. -/
import Derived.Test.YtbefgiboikfojaaGreatRcag
import Derived.Test.YtbefgiboikfojaaGreatRcaj
import Derived.Test.YtbefgiboikfojaaGreatRcak
import Derived.Test.YtbefgiboikfojaaGreatRcaq
namespace Go.Proofs.YtbefgiboikfojaaGreat
open Go.RowKit
set_option linter.unusedVariables false
set_option linter.unusedSimpArgs false
set_option maxRecDepth 100000
set_option maxHeartbeats 8000000
theorem Zvm(F:Gt)(w:Gy)(A:OA)(c:Nat)(l:List Edge)(h:Walk F w A l)(hl:l.length<=1000000)(aC:∀e∈l,e.ok):
  CN 26 #[.slice A l.length c] w (.string ⟨(ZP l l.length).toArray⟩):=by
 go_enter Tryz.func26,Tryz.ntmps26;go_wp2
 go_loopg [8] l.length (fun gk i wr=>∃(k:Nat) (G:Gt),k+gk=l.length∧i= Qi k∧Bld wr G w.heap.size (ZP l k)∧(∀j,G j->w.heap.size<=j∧j<wr.heap.size)∧Upd No w wr)
 case atStart=>exact⟨0,_,by omega,rfl,Bld.fresh w,fun j hj=>⟨by omega,by simp;omega⟩,(Gg _ _).alloc _⟩
 case round=>
  obtain⟨k,G,aK,rfl,hb,hG,hu⟩:=hrel
  by_cases hlt:k<l.length
  ·obtain⟨ad,rfl,c0,c1,c2,c3⟩:=(h.upd hu Qo).at_ hlt;obtain⟨x,hx⟩:=Qe (l[k]);rw[hx]at c0 c1 c2 c3;have hX:l[k]? =some x:=by rw[Qg hlt,hx]
   have hk:=Qh (aC x (by rw[<-hx];exact Fr hlt));clear hx;have jz:=(Gh wr 94 x.cells);have d0:(wr.alloc (.cells x.cells.toArray 94)).cell? ⟨wr.heap.size,0,none⟩=some (Qi x.f):=jz.cell 0;have d1:(wr.alloc (.cells x.cells.toArray 94)).cell? ⟨wr.heap.size,1,none⟩=some (Qi x.t):=jz.cell 1;have d2:(wr.alloc (.cells x.cells.toArray 94)).cell? ⟨wr.heap.size,2,none⟩=some (Qi x.k):=jz.cell 2;have d3:(wr.alloc (.cells x.cells.toArray 94)).cell? ⟨wr.heap.size,3,none⟩=some (Qi x.key):=jz.cell 3;have D:=Qh (And.intro d0 (And.intro d1 (And.intro d2 d3)));have hba:=hb.upd ((Gg No wr).alloc (.cells x.cells.toArray 94)) Qo;have HG:=Qh hG;clear d0 d1 d2 d3 jz hG
   by_cases hk0:k=0
   ·have e9:((k:Int)==0)=true:=by rw[beq_iff_eq];omega
    have hm:=Qh (show ZP l (k+1)=Z5 x.f++Zb9 x by
     conv=>lhs;unfold ZP
     rw[hX];simp[hk0])
    have hm0:=Qh (show ZP l k=[] by rw[hk0];rfl);clear hX hk0;have n4:=Zu x.f;have HN:¬G wr.heap.size:=fun e=>by have:=(HG.out _ e).2;omega
    have vo:(ZP l k).length=0:=by rw[hm0.out];rfl
    go_wp2_with fail;refine Ck (ZbP _ _ hk.out.1.1 hk.out.1.2) fun w1 hu1=>?_;have u1:=hu1;go_wp2_with fail;refine(Zhv _ G w.heap.size (ZP l k) _ (hba.upd u1 Qo) (by omega)).mono ?_;rintro e w2 ⟨rfl,G1,sE,hu2,kh⟩;have rE:ZP l k++(Zf x.f).data.toList=Z5 x.f:=by rw[hm0.out];rfl
    rw[rE]at sE;have vG:wr.heap.size<w1.heap.size:=by have:=u1.size;simp at this;omega
    have iO:¬G1 wr.heap.size:=fun e=>by
     rcases kh _ e with h|h
     ·exact HN h
     ·omega
    have aU:∀j,G1 j->w.heap.size<=j:=fun j hj=>by
     rcases kh _ hj with h|h
     ·exact(HG.out j h).1
     ·have:=hu.size;omega
    have ry:Upd No w w2:=((hu.alloc (.cells x.cells.toArray 94)).trans u1).then_ hu2 fun j hj=> .inr (HG.out j hj).1
    have g1:w2.cell? ⟨wr.heap.size,1,none⟩=some (Qi x.t):=hu2.keep (u1.keepNo D.out.2.1) HN;have g2:w2.cell? ⟨wr.heap.size,2,none⟩=some (Qi x.k):=hu2.keep (u1.keepNo D.out.2.2.1) HN;have g3:w2.cell? ⟨wr.heap.size,3,none⟩=some (Qi x.key):=hu2.keep (u1.keepNo D.out.2.2.2) HN;have wR:=Qh aU;clear hba kh aU rE HN hu1 u1 hm0 vo hu2;have iW:=ZdK x.f;have n0:=ZfE x.k;have n1:=Zu x.key;have n2:=Zu x.t;have n3:(⟨#[32]⟩:Gm).size=1:=rfl;have q1:¬9223372036854775807<1+(ZbL x.k).size:=by omega
    have q2:¬9223372036854775807<1+(ZbL x.k).size+(Zf x.key).size:=by omega
    have q3:¬9223372036854775807<1+(ZbL x.k).size+(Zf x.key).size+1:=by omega
    have q4:¬9223372036854775807<1+(ZbL x.k).size+(Zf x.key).size+1+(Zf x.t).size:=by omega
    have e00:Upd No w2 w2.drew:=(Gg No w2).drew;have e0:Upd G1 w2 w2.drew:=(Gg G1 w2).drew;have e1:w2.drew.cell? ⟨wr.heap.size,1,none⟩=some (Qi x.t):=g1;have e2:w2.drew.cell? ⟨wr.heap.size,2,none⟩=some (Qi x.k):=g2;have e3:w2.drew.cell? ⟨wr.heap.size,3,none⟩=some (Qi x.key):=g3;go_wp2_with fail
    go_region_held3 (fun w'=>Upd G1 w2 w'∧w'.cell? ⟨wr.heap.size,1,none⟩=some (Qi x.t)∧w'.cell? ⟨wr.heap.size,2,none⟩=some (Qi x.k)∧w'.cell? ⟨wr.heap.size,3,none⟩=some (Qi x.key))
     (first
      |(with_reducible exact⟨e0,e1,e2,e3⟩)
      |(with_reducible exact⟨hU,k1,k2,k3⟩))
     (first
      |(go_at_call 48;refine Ck (Zpx _ x.k) fun w3 hu2=>?_;have hV:Upd No w2 w3:=Upd.trans (by first|exact hV|exact e00) hu2;have hU:Upd G1 w2 w3:=hV.mono (fun _ _ h=>h.elim);have k1:w3.cell? ⟨wr.heap.size,1,none⟩=some (Qi x.t):=hu2.keepNo (by first|exact k1|exact e1);have k2:w3.cell? ⟨wr.heap.size,2,none⟩=some (Qi x.k):=hu2.keepNo (by first|exact k2|exact e2);have k3:w3.cell? ⟨wr.heap.size,3,none⟩=some (Qi x.key):=hu2.keepNo (by first|exact k3|exact e3))
      |(go_at_call 36;refine(ZbP _ _ ?_ ?_).mono ?_;(first|exact hk.out.2.2.1|exact hk.out.2.1.1);(first|exact hk.out.2.2.2|exact hk.out.2.1.2);rintro e w3 ⟨rfl,hu2⟩;have hV:Upd No w2 w3:=Upd.trans (by first|exact hV|exact e00) hu2;have hU:Upd G1 w2 w3:=hV.mono (fun _ _ h=>h.elim);have k1:w3.cell? ⟨wr.heap.size,1,none⟩=some (Qi x.t):=hu2.keepNo (by first|exact k1|exact e1);have k2:w3.cell? ⟨wr.heap.size,2,none⟩=some (Qi x.k):=hu2.keepNo (by first|exact k2|exact e2);have k3:w3.cell? ⟨wr.heap.size,3,none⟩=some (Qi x.key):=hu2.keepNo (by first|exact k3|exact e3))
      |(go_at_call 37;refine(Zhv _ G1 w.heap.size (Z5 x.f) _ (sE.upd hV Qo) ?_).mono ?_;(simp only[Ex,n3];omega);rintro e w3 ⟨rfl,G',m9,hu2,Bz⟩;have hU:Upd G1 w2 w3:=Upd.trans (hV.mono (fun _ _ h=>h.elim)) hu2;have k1:w3.cell? ⟨wr.heap.size,1,none⟩=some (Qi x.t):=hu2.keep (by first|exact k1|exact e1) iO;have k2:w3.cell? ⟨wr.heap.size,2,none⟩=some (Qi x.k):=hu2.keep (by first|exact k2|exact e2) iO;have k3:w3.cell? ⟨wr.heap.size,3,none⟩=some (Qi x.key):=hu2.keep (by first|exact k3|exact e3) iO))
    have HS:Hid (Z5 x.f++((⟨#[32]⟩:Gm)++ZbL x.k++Zf x.key++⟨#[32]⟩++Zf x.t).data.toList=ZP l (k+1)):=Qh (by
     rw[hm.out,show(⟨#[32]⟩:Gm)=⟨[32].toArray⟩ from rfl];unfold ZbL Zf Zb9;simp only[Zjz])
    rw[HS.out]at m9;have kR:=hU.size;have wB:=ry.size;have ur:=m9.lt';clear m9;clear q1 q2 q3 q4 e0 e1 e2 e3 k1 k2 k3 n3;go_wp2;go_roundg (gk-1);exact⟨k+1,_,by omega,by go_num,ur,fun j hj=>⟨hj.2.1,hj.1⟩,ry.then_ hU fun j hj=> .inr (wR.out j hj)⟩;omega
   ·have e9:((k:Int)==0)=false:=by rw[beq_eq_false_iff_ne];omega
    have hm:=Qh (show ZP l (k+1)=ZP l k++Zb9 x by
     conv=>lhs;unfold ZP
     rw[hX];simp[hk0])
    clear hX hk0;have iW:=Zj4 l k;have n0:=ZfE x.k;have n1:=Zu x.key;have n2:=Zu x.t;have n3:(⟨#[32]⟩:Gm).size=1:=rfl;have q1:¬9223372036854775807<1+(ZbL x.k).size:=by omega
    have q2:¬9223372036854775807<1+(ZbL x.k).size+(Zf x.key).size:=by omega
    have q3:¬9223372036854775807<1+(ZbL x.k).size+(Zf x.key).size+1:=by omega
    have q4:¬9223372036854775807<1+(ZbL x.k).size+(Zf x.key).size+1+(Zf x.t).size:=by omega
    go_wp2_with fail;obtain⟨wa,lx⟩:∃wa,wa=(wr.alloc (.cells #[Qi x.f,Qi x.t,Qi x.k,Qi x.key] 94)):=⟨_,rfl⟩;have HN:¬G wr.heap.size:=fun e=>by have:=(HG.out _ e).2;omega
    have ah:wr.heap.size<wa.heap.size:=by rw[lx];simp
    have ry:Upd No wr wa:=by rw[lx];exact(Gg No wr).alloc _
    have e00:Upd No wa wa.drew:=(Gg No wa).drew;have e0:Upd G wa wa.drew:=(Gg G wa).drew;have e1:wa.drew.cell? ⟨wr.heap.size,1,none⟩=some (Qi x.t):=by rw[lx];exact D.out.2.1
    have e2:wa.drew.cell? ⟨wr.heap.size,2,none⟩=some (Qi x.k):=by rw[lx];exact D.out.2.2.1
    have e3:wa.drew.cell? ⟨wr.heap.size,3,none⟩=some (Qi x.key):=by rw[lx];exact D.out.2.2.2
    have Du:Bld wa G w.heap.size (ZP l k):=by rw[lx];exact hba
    rw[<-lx];clear hba lx
    go_region_held3 (fun w'=>Upd G wa w'∧w'.cell? ⟨wr.heap.size,1,none⟩=some (Qi x.t)∧w'.cell? ⟨wr.heap.size,2,none⟩=some (Qi x.k)∧w'.cell? ⟨wr.heap.size,3,none⟩=some (Qi x.key))
     (first
      |(with_reducible exact⟨e0,e1,e2,e3⟩)
      |(with_reducible exact⟨hU,k1,k2,k3⟩))
     (first
      |(go_at_call 48;refine Ck (Zpx _ x.k) fun w2 hu2=>?_;have hV:Upd No wa w2:=Upd.trans (by first|exact hV|exact e00) hu2;have hU:Upd G wa w2:=hV.mono (fun _ _ h=>h.elim);have k1:w2.cell? ⟨wr.heap.size,1,none⟩=some (Qi x.t):=hu2.keepNo (by first|exact k1|exact e1);have k2:w2.cell? ⟨wr.heap.size,2,none⟩=some (Qi x.k):=hu2.keepNo (by first|exact k2|exact e2);have k3:w2.cell? ⟨wr.heap.size,3,none⟩=some (Qi x.key):=hu2.keepNo (by first|exact k3|exact e3))
      |(go_at_call 36;refine(ZbP _ _ ?_ ?_).mono ?_;(first|exact hk.out.2.2.1|exact hk.out.2.1.1);(first|exact hk.out.2.2.2|exact hk.out.2.1.2);rintro e w2 ⟨rfl,hu2⟩;have hV:Upd No wa w2:=Upd.trans (by first|exact hV|exact e00) hu2;have hU:Upd G wa w2:=hV.mono (fun _ _ h=>h.elim);have k1:w2.cell? ⟨wr.heap.size,1,none⟩=some (Qi x.t):=hu2.keepNo (by first|exact k1|exact e1);have k2:w2.cell? ⟨wr.heap.size,2,none⟩=some (Qi x.k):=hu2.keepNo (by first|exact k2|exact e2);have k3:w2.cell? ⟨wr.heap.size,3,none⟩=some (Qi x.key):=hu2.keepNo (by first|exact k3|exact e3))
      |(go_at_call 37;refine(Zhv _ G w.heap.size (ZP l k) _ (Du.upd hV Qo) ?_).mono ?_;(simp only[Ex,n3];omega);rintro e w2 ⟨rfl,G',m9,hu2,Bz⟩;have hU:Upd G wa w2:=Upd.trans (hV.mono (fun _ _ h=>h.elim)) hu2;have k1:w2.cell? ⟨wr.heap.size,1,none⟩=some (Qi x.t):=hu2.keep (by first|exact k1|exact e1) HN;have k2:w2.cell? ⟨wr.heap.size,2,none⟩=some (Qi x.k):=hu2.keep (by first|exact k2|exact e2) HN;have k3:w2.cell? ⟨wr.heap.size,3,none⟩=some (Qi x.key):=hu2.keep (by first|exact k3|exact e3) HN))
    have HS:Hid (ZP l k++((⟨#[32]⟩:Gm)++ZbL x.k++Zf x.key++⟨#[32]⟩++Zf x.t).data.toList=ZP l (k+1)):=Qh (by
     rw[hm.out,show(⟨#[32]⟩:Gm)=⟨[32].toArray⟩ from rfl];unfold ZbL Zf Zb9;simp only[Zjz])
    rw[HS.out]at m9;have kR:=hU.size;have wB:=ry.size;have ur:=m9.lt';clear m9;clear q1 q2 q3 q4 e0 e1 e2 e3 k1 k2 k3 n3;go_wp2;go_roundg (gk-1);exact⟨k+1,_,by omega,by go_num,ur,fun j hj=>⟨hj.2.1,hj.1⟩,(hu.trans ry).then_ hU fun j hj=> .inr (HG.out j hj).1⟩;omega
  ·obtain rfl:k=l.length:=by omega
   go_wp2_with (refine(Zmx _ _ _ _ hb).mono ?_;rintro e w' ⟨rfl,cf⟩);go_ret;exact⟨rfl,hu.then_ (T:=fun j=>w.heap.size<=j) ⟨cf.os,cf.tape,cf.output,cf.size,fun j hj hn=>cf.block j (by omega)⟩ fun j hj=> .inr hj⟩
/- A transaction's text:the program's. -/
def BSx(wb:Gy)(b:Nat)(l:Gk)(W:Gy):Prop:=∃G,Bld W G b l∧(∀j,G j->wb.heap.size<=j)∧Upd No wb W
namespace BSx
variable {wb W W':Gy} {b:Nat} {l:Gk}
theorem no(h:BSx wb b l W)(u:Upd No W W'):BSx wb b l W':=by
 obtain⟨G,h1,h2,h3⟩:=h;exact⟨G,h1.upd u Qo,h2,h3.trans u⟩
theorem upd(h:BSx wb b l W):Upd No wb W:=by
 obtain⟨G,h1,h2,h3⟩:=h;exact h3
theorem fresh(wb:Gy):BSx wb wb.heap.size [] (wb.alloc (.cells #[.pointer none,.slice none 0 0] 79)):=⟨_,Bld.fresh wb,fun j hj=>by omega,(Gg No wb).alloc _⟩
theorem write(h:BSx wb b l W)(s:Gm)(hl:l.length+s.size<=140737488355328):Calls Tryz.prog 37 #[.pointer (some ⟨b,0,none⟩),.string s] W fun e w'=>e= .returned (.tuple #[Qi s.size,.nilIface])∧BSx wb b (l++s.data.toList) w':=by
 obtain⟨G,h1,h2,h3⟩:=h;refine(Zhv W G b l s h1 hl).mono ?_;rintro e w2 ⟨rfl,G1,sE,hu2,kh⟩;refine⟨rfl,G1,sE,fun j hj=>?_,h3.then_ hu2 fun j hj=> .inr (h2 j hj)⟩;rcases kh j hj with e|e
 ·exact h2 j e
 ·have:=h3.size;omega
theorem str(h:BSx wb b l W)(hb:wb.heap.size<=b):Calls Tryz.prog 38 #[.pointer (some ⟨b,0,none⟩)] W fun e w'=>e= .returned (.string ⟨l.toArray⟩)∧Upd No wb w':=by
 obtain⟨G,h1,h2,h3⟩:=h;refine(Zmx _ _ _ _ h1).mono ?_;rintro e w' ⟨rfl,cf⟩;exact⟨rfl,h3.then_ (T:=fun j=>b<=j) ⟨cf.os,cf.tape,cf.output,cf.size,fun j hj hn=>cf.block j (by omega)⟩ fun j hj=> .inr (by omega)⟩
end BSx
theorem Zk8(s:Gm):s.data.toList.length=s.size:=by
 rw[Array.length_toList];rfl
theorem ZhU(i:Int)(d:Bool):∀l:Gu,(Za8 i d l).length<=23+71*l.length:=by
 intro l;have h1:=ZdK i
 have h2:∀l:Gu,(l.flatMap fun o=>32::(Zaq o).data.toList).length<=71*l.length:=by
  intro l
  induction l with
  |nil=>simp
  |cons o l ih=>
   rw[List.flatMap_cons,Fb,Fs,Fs];have:=ZeZ o;have e:=Zk8 (Zaq o);omega
 have h3:=h2 l;unfold Za8;rw[Fb,Fb];simp only[Fs,Fz];omega
theorem Zuj(F:Gt)(w:Gy)(i:Int)(d:Bool)(A:OA)(c:Nat)(l:Gu)(hi:i64 i)(h:HOps F w A l)(hl:l.length<=100000)(aC:∀o∈l,o.ok):
  CN 34 #[.agg #[Qi i,.bool d,.slice A l.length c]] w (.string ⟨(Za8 i d l).toArray⟩):=by
 obtain⟨z,hz⟩:=Qe w.heap.size;obtain⟨wb,ah⟩:=Qe (w.alloc (.cells #[Qi i,.bool d,.slice A l.length c] 53));have ub:Upd No w wb:=by rw[<-ah];exact(Gg No w).alloc _
 have sb:wb.heap.size=z+1:=by rw[<-ah,<-hz];simp
 have bb:Blk wb z 53 [Qi i,.bool d,.slice A l.length c]:=by rw[<-ah,<-hz];exact Gh w _ _
 obtain⟨wc,eR⟩:=Qe (wb.alloc (.cells #[.pointer none,.slice none 0 0] 79));have hb0:BSx wb (z+1) [] wc:=by rw[<-eR,<-sb];exact BSx.fresh wb
 have t0:=bb.ev 0 rfl
 have t1:=bb.ev 1 rfl
 have t2:=bb.ev 2 rfl
 have hbz:Upd No wb wc:=hb0.upd;have b8:=Qh hb0;have HH:=Qh (fun W (u:Upd No wb W)=>HOps.upd h (ub.trans u) Qo);have UB:=Qh ub;have HI:=Qh hi;have kJ:=Qh aC;have n1:=Zu i;have m1:(⟨#[32,97]⟩:Gm).size=2:=rfl;have m2:(⟨#[32,99]⟩:Gm).size=2:=rfl;have m3:(⟨#[32]⟩:Gm).size=1:=rfl;have SB:=Qh sb;clear bb ub h hi aC hb0;go_enter Tryz.func34,Tryz.ntmps34;go_wp2_with fail;refine Ck (ZbP _ i HI.out.1 HI.out.2) fun w1 hu1=>?_;have HW:=Qh ((b8.out.no hu1).write (Zf i) (by simp only[Fz];omega));clear hu1;go_wp2_with fail;refine Ck HW.out fun w2 hb2=>?_;have gY:=Qh hb2;have hu2:=hb2.upd;clear hb2
 cases d
 ·have j6:=Qh (gY.out.write ⟨#[32,97]⟩ (by rw[Fy,Zk8];omega));go_wp2_with fail;refine Ck j6.out fun w3 hb3=>?_;have iV:=Qh (show BSx wb (z+1) (Za8 i false (l.take 0)) w3 by rw[show Za8 i false (l.take 0)=[]++(Zf i).data.toList++(⟨#[32,97]⟩:Gm).data.toList from(by unfold Za8 Zf;simp)];exact hb3);have hu3:=hb3.upd;clear hb3 hu2;go_wp2;clear hu3
  go_loopg [17] l.length (fun gk j wr=>∃k:Nat,k+gk=l.length∧j= Qi (k:Int)∧Hid (BSx wb (z+1) (Za8 i false (l.take k)) wr))
  case atStart=>exact⟨0,by omega,rfl,iV⟩
  case round=>
   obtain⟨k,aK,rfl,ag⟩:=hrel
   by_cases hlt:k<l.length
   ·obtain⟨ad,aA,q0,q1,q2,q3⟩:=(HH.out _ ag.out.upd).at_ hlt;obtain⟨x,hx⟩:=Qe (l[k]);rw[hx]at q0 q1 q2 q3;subst aA;have HS:=Qh (Zj2 i false hlt hx);have oT:x.ok:=kJ.out x (hx▸Fr hlt);have b1:(0:Int)<=(k:Int):=Qn _;have b2:(k:Int)<(l.length:Int):=by omega
    have n2:=ZeZ x;have p3:¬9223372036854775807<1+(Zaq x).size:=by omega
    obtain⟨zx,qB⟩:=Qe wr.heap.size;obtain⟨wx,aJ⟩:=Qe (wr.alloc (.cells #[.bool x.read,Qi x.key,Qi x.tx,Qi x.nth] 50));have ux:Upd No wr wx:=by rw[<-aJ];exact(Gg No wr).alloc _
    have bx:Blk wx zx 50 [.bool x.read,Qi x.key,Qi x.tx,Qi x.nth]:=by rw[<-aJ,<-qB];exact Gh wr _ _
    obtain⟨x0,x1,x2,x3⟩:=bx.c4;have HT:=Qh (ZlJ wx x oT);unfold HOp.cells at HT;have UX:=Qh ux;have cF:=ZhU i false (l.take k);rw[Fl]at cF;have ee:=Qh (show(Za8 i false (l.take k)).length+(⟨#[32]⟩++Zaq x:Gm).size<=140737488355328 by rw[Ex];omega);have HE:=Qh (show Za8 i false (l.take k)++(⟨#[32]⟩++Zaq x:Gm).data.toList=Za8 i false (l.take (k+1)) by rw[HS.out];simp);clear hx oT ux bx cF;go_wp2_with fail;refine Ck HT.out fun w5 hu5=>?_;have HW:=Qh ((ag.out.no (UX.out.trans hu5)).write (⟨#[32]⟩++Zaq x) ee.out);rw[HE.out]at HW;clear hu5;go_wp2_with fail;refine Ck HW.out fun w6 hb6=>?_;have fE:=Qh hb6;clear hb6;go_wp2;go_roundg (gk-1);exact⟨k+1,by omega,by go_num,fE⟩;omega
   ·obtain rfl:k=l.length:=by omega
    have aD:=Qh (ag.out.str (by omega));rw[Fj]at aD;go_wp2_with fail;refine Ck aD.out fun w7 hu7=>?_;go_wp2;go_ret;exact⟨rfl,UB.out.trans hu7⟩
 ·have j6:=Qh (gY.out.write ⟨#[32,99]⟩ (by rw[Fy,Zk8];omega));go_wp2_with fail;refine Ck j6.out fun w3 hb3=>?_;have iV:=Qh (show BSx wb (z+1) (Za8 i true (l.take 0)) w3 by rw[show Za8 i true (l.take 0)=[]++(Zf i).data.toList++(⟨#[32,99]⟩:Gm).data.toList from(by unfold Za8 Zf;simp)];exact hb3);have hu3:=hb3.upd;clear hb3 hu2;go_wp2;clear hu3
  go_loopg [17] l.length (fun gk j wr=>∃k:Nat,k+gk=l.length∧j= Qi (k:Int)∧Hid (BSx wb (z+1) (Za8 i true (l.take k)) wr))
  case atStart=>exact⟨0,by omega,rfl,iV⟩
  case round=>
   obtain⟨k,aK,rfl,ag⟩:=hrel
   by_cases hlt:k<l.length
   ·obtain⟨ad,aA,q0,q1,q2,q3⟩:=(HH.out _ ag.out.upd).at_ hlt;obtain⟨x,hx⟩:=Qe (l[k]);rw[hx]at q0 q1 q2 q3;subst aA;have HS:=Qh (Zj2 i true hlt hx);have oT:x.ok:=kJ.out x (hx▸Fr hlt);have b1:(0:Int)<=(k:Int):=Qn _;have b2:(k:Int)<(l.length:Int):=by omega
    have n2:=ZeZ x;have p3:¬9223372036854775807<1+(Zaq x).size:=by omega
    obtain⟨zx,qB⟩:=Qe wr.heap.size;obtain⟨wx,aJ⟩:=Qe (wr.alloc (.cells #[.bool x.read,Qi x.key,Qi x.tx,Qi x.nth] 50));have ux:Upd No wr wx:=by rw[<-aJ];exact(Gg No wr).alloc _
    have bx:Blk wx zx 50 [.bool x.read,Qi x.key,Qi x.tx,Qi x.nth]:=by rw[<-aJ,<-qB];exact Gh wr _ _
    obtain⟨x0,x1,x2,x3⟩:=bx.c4;have HT:=Qh (ZlJ wx x oT);unfold HOp.cells at HT;have UX:=Qh ux;have cF:=ZhU i true (l.take k);rw[Fl]at cF;have ee:=Qh (show(Za8 i true (l.take k)).length+(⟨#[32]⟩++Zaq x:Gm).size<=140737488355328 by rw[Ex];omega);have HE:=Qh (show Za8 i true (l.take k)++(⟨#[32]⟩++Zaq x:Gm).data.toList=Za8 i true (l.take (k+1)) by rw[HS.out];simp);clear hx oT ux bx cF;go_wp2_with fail;refine Ck HT.out fun w5 hu5=>?_;have HW:=Qh ((ag.out.no (UX.out.trans hu5)).write (⟨#[32]⟩++Zaq x) ee.out);rw[HE.out]at HW;clear hu5;go_wp2_with fail;refine Ck HW.out fun w6 hb6=>?_;have fE:=Qh hb6;clear hb6;go_wp2;go_roundg (gk-1);exact⟨k+1,by omega,by go_num,fE⟩;omega
   ·obtain rfl:k=l.length:=by omega
    have aD:=Qh (ag.out.str (by omega));rw[Fj]at aD;go_wp2_with fail;refine Ck aD.out fun w7 hu7=>?_;go_wp2;go_ret;exact⟨rfl,UB.out.trans hu7⟩
/- What is said of a read,and of a witness. -/
def ZcL(tx pl vt vk vn:Int):Gm:=Zbs [Zf tx,Zf pl,Zaq ⟨true,vk,vt,vn⟩]
theorem ZhH(a b c:Gm):Zbs [a,b,c]=a++(⟨#[32]⟩++b)++(⟨#[32]⟩++c):=by
 rw[show[a,b,c]=[a,b]++[c] from rfl,Zf2 (by simp),show[a,b]=[a]++[b] from rfl,Zf2 (by simp),ZkF]
theorem ZiD(tx pl vt vk vn:Int):(ZcL tx pl vt vk vn).size<=150:=by
 have n1:=Zu tx;have n2:=Zu pl;have n3:=ZeZ ⟨true,vk,vt,vn⟩;have m1:(⟨#[32]⟩:Gm).size=1:=rfl;unfold ZcL;rw[ZhH,Ex,Ex,Ex,Ex];omega
theorem Zrl(w:Gy)(a b c:Gm):(w.alloc (.cells #[.string a,.string b,.string c] 9)).ownsRow w.heap.size 9 1 (.slice (some ⟨w.heap.size,0,none⟩) 3 3) 3 (Zbl [a,b,c]):=
 ⟨rfl,.inr ⟨w.heap.size,3,#[.string a,.string b,.string c],rfl,Nat.le_refl _,heap_alloc_new w _,Nat.le_refl _,by unfold maxLen;omega,rfl,rfl⟩⟩
theorem Zvo(w:Gy)(tx pl vt vk vn:Int)(h1:i64 tx)(h2:i64 pl)(hk:i64 vk∧i64 vt∧i64 vn):CN 25 #[.agg #[Qi tx,Qi pl,Qi vt,Qi vk,Qi vn]] w (.string (ZcL tx pl vt vk vn)):=by
 obtain⟨z,hz⟩:=Qe w.heap.size;obtain⟨wb,ah⟩:=Qe (w.alloc (.cells #[Qi tx,Qi pl,Qi vt,Qi vk,Qi vn] 38));have sb:wb.heap.size=z+1:=by rw[<-ah,<-hz];simp
 obtain⟨wc,eR⟩:=Qe (wb.alloc (.cells #[.bool true,Qi vk,Qi vt,Qi vn] 50));have u1:Upd No w wb:=by rw[<-ah];exact(Gg No w).alloc _
 have u2:Upd No wb wc:=by rw[<-eR];exact(Gg No wb).alloc _
 have bb:Blk wb z 38 [Qi tx,Qi pl,Qi vt,Qi vk,Qi vn]:=by rw[<-ah,<-hz];exact Gh w _ _
 have bo:Blk wc (z+1) 50 [.bool true,Qi vk,Qi vt,Qi vn]:=by rw[<-eR,<-sb];exact Gh wb _ _
 have b2:=bb.cell 2;have b3:=bb.cell 3;have b4:=bb.cell 4;simp only[Qz,Qs]at b2 b3 b4;have t0:∀W,Upd No wc W->W.cell? ⟨z,0,none⟩=some (Qi tx):=fun W u=>((bb.upd u2 id).upd u id).cell 0
 have t1:∀W,Upd No wc W->W.cell? ⟨z,1,none⟩=some (Qi pl):=fun W u=>((bb.upd u2 id).upd u id).cell 1
 have o0:=bo.ev 0 rfl
 have o1:=bo.ev 1 rfl
 have o2:=bo.ev 2 rfl
 have o3:=bo.ev 3 rfl
 have CO:=Qh (fun W=>ZlJ W ⟨true,vk,vt,vn⟩ hk);unfold HOp.cells at CO;have CT:=Qh (fun W=>ZbP W tx h1.1 h1.2);have CP:=Qh (fun W=>ZbP W pl h2.1 h2.2);have cF:=ZiD tx pl vt vk vn;have CJ:=Qh (fun W:Gy=>Zn6 (W.alloc (.cells #[.string (Zf tx),.string (Zf pl),.string (Zaq ⟨true,vk,vt,vn⟩)] 9)) [Zf tx,Zf pl,Zaq ⟨true,vk,vt,vn⟩] (Zrl W _ _ _) (by simp) (by simp) (by rw[ZgU];unfold ZcL at cF;omega));have UC:=Qh (u1.trans u2);clear u1 u2 bb bo h1 h2 hk cF;go_enter Tryz.func25,Tryz.ntmps25;go_wp2;clear b2 b3 b4;refine wpS (fun w'=>Upd No wc w') ?_ fun hHeld=>?_
 ·(first|exact(Gg No _).drew|exact hHeld.trans hu3|exact hHeld.alloc _)
 (iterate 2 refine wpF ?_);refine wpK 3 rfl ?_;refine wpK 4 rfl ?_;refine wpK 6 rfl ?_;refine wpZ 2 rfl fun K hK=>?_;go_simp
 (first
  |(go_at_call 36;refine Ck (CT.out _) fun w3 hu3=>?_))
 try (go_wp2_with fail)
 refine hK.out _ _ ?_ fun hHeld=>?_
 ·(first|exact(Gg No _).drew|exact hHeld.trans hu3|exact hHeld.alloc _)
 try simp only[Qa]
 refine wpZ 5 rfl fun K hK=>?_;go_simp
 (first
  |(go_at_call 36;refine Ck (CP.out _) fun w3 hu3=>?_))
 try (go_wp2_with fail)
 refine hK.out _ _ ?_ fun hHeld=>?_
 ·(first|exact(Gg No _).drew|exact hHeld.trans hu3|exact hHeld.alloc _)
 try simp only[Qa]
 refine wpZ 7 rfl fun K hK=>?_;go_simp
 (first
  |(go_at_call 47;refine Ck (CO.out _) fun w3 hu3=>?_))
 try (go_wp2_with fail)
 refine hK.out _ _ ?_ fun hHeld=>?_
 ·(first|exact(Gg No _).drew|exact hHeld.trans hu3|exact hHeld.alloc _)
 try simp only[Qa]
 refine wpZ 8 rfl fun K hK=>?_;go_simp;refine hK.out _ _ ?_ fun hHeld=>?_
 ·(first|exact(Gg No _).drew|exact hHeld.trans hu3|exact hHeld.alloc _)
 try simp only[Qa]
 refine wpZ 9 rfl fun K hK=>?_;go_simp
 (first
  |(go_at_call 20;refine Ck (CJ.out _) fun w3 hu3=>?_))
 try (go_wp2_with fail)
 refine hK.out _ _ ?_ fun hHeld=>?_
 ·(first|exact(Gg No _).drew|exact hHeld.trans hu3|exact hHeld.alloc _)
 try simp only[Qa]
 refine wpK 10 rfl ?_;refine wpD (Gd ?_);go_wp2;go_ret;exact⟨rfl,UC.out.trans hHeld⟩
def Zau(p:Int)(is:Bool)(l:List Edge)(tx pl vt vk vn:Int):Gm:=
 ZcO p++⟨#[32]⟩++(if is=false then ⟨#[110,111]⟩ else if p=2∨p=3 then ZcL tx pl vt vk vn else ⟨(ZP l l.length).toArray⟩)++⟨#[10]⟩
theorem ZnM(l:List Edge):(⟨(ZP l l.length).toArray⟩:Gm).size<=100*l.length:=by
 have:=Zj4 l l.length
 show Array.size _<=_
 rwa [List.size_toArray]
theorem ZnX{F:Gt}(w:Gy)(p:Int)(is:Bool)(q:Int)(A:OA)(c:Nat)(l:List Edge)(tx pl vt vk vn:Int)(H:Walk F w A l)(hl:l.length<=1000000)(aC:∀e∈l,e.ok)(h1:i64 tx)(h2:i64 pl)(hk:i64 vk∧i64 vt∧i64 vn):
  CN 9 #[Qi p,.agg #[Qi q,.slice A l.length c,Qi tx,Qi pl,Qi vt,Qi vk,Qi vn],.bool is] w (.string (Zau p is l tx pl vt vk vn)):=by
 obtain⟨z,hz⟩:=Qe w.heap.size;obtain⟨wb,ah⟩:=Qe (w.alloc (.cells #[Qi q,.slice A l.length c,Qi tx,Qi pl,Qi vt,Qi vk,Qi vn] 40));have sb:wb.heap.size=z+1:=by rw[<-ah,<-hz];simp
 have u1:Upd No w wb:=by rw[<-ah];exact(Gg No w).alloc _
 have bb:Blk wb z 40 [Qi q,.slice A l.length c,Qi tx,Qi pl,Qi vt,Qi vk,Qi vn]:=by rw[<-ah,<-hz];exact Gh w _ _
 have t1:=bb.ev 1 rfl
 have t2:=bb.ev 2 rfl
 have t3:=bb.ev 3 rfl
 have t4:=bb.ev 4 rfl
 have t5:=bb.ev 5 rfl
 have t6:=bb.ev 6 rfl
 have hbz:Upd No wb wb:=Gg _ _;have HW:=Qh (fun W (u:Upd No wb W)=>H.upd (u1.trans u) Qo);have kJ:=Qh aC;have U1:=Qh u1;have n1:=ZfX p;obtain⟨NM,iC⟩:=Qe (ZcO p);rw[iC]at n1;have m1:(⟨#[32]⟩:Gm).size=1:=rfl;have m2:(⟨#[110,111]⟩:Gm).size=2:=rfl;have m3:(⟨#[10]⟩:Gm).size=1:=rfl;have m4:(⟨#[110,111,10]⟩:Gm).size=3:=rfl;have p1:¬9223372036854775807<NM.size+1:=by omega
 have p2:¬9223372036854775807<NM.size+1+2:=by omega
 have p3:¬9223372036854775807<NM.size+1+2+1:=by omega
 have p4:¬9223372036854775807<NM.size+1+3:=by omega
 have Ea:=Qh iC;clear u1 bb H aC;have CN:=Qh (Zss wb p);rw[iC]at CN
 cases is
 ·have HR:=Qh (show Zau p false l tx pl vt vk vn=NM++⟨#[32]⟩++⟨#[110,111]⟩++⟨#[10]⟩ by unfold Zau;rw[iC,if_pos rfl]);clear iC h1 h2 hk;go_enter Tryz.func9,Tryz.ntmps9;go_wp2_with fail;refine(CN.out).mono ?_;rintro e w3 ⟨rfl,rfl⟩;go_wp2;go_ret;exact⟨by rw[HR.out];rfl,U1.out⟩
 by_cases hp:p=2∨p=3
 ·have HR:=Qh (show Zau p true l tx pl vt vk vn=NM++⟨#[32]⟩++ZcL tx pl vt vk vn++⟨#[10]⟩ by unfold Zau;rw[iC,if_neg (by simp),if_pos hp]);have n2:=ZiD tx pl vt vk vn;have CR:=Qh (Zvo wb tx pl vt vk vn h1 h2 hk);obtain⟨RS,qP⟩:=Qe (ZcL tx pl vt vk vn);rw[qP]at CR HR n2;have p5:¬9223372036854775807<NM.size+1+RS.size:=by omega
  have p6:¬9223372036854775807<NM.size+1+RS.size+1:=by omega
  clear iC h1 h2 hk qP;rcases hp with rfl|rfl
  ·go_enter Tryz.func9,Tryz.ntmps9;go_wp2_with fail;refine(CN.out).mono ?_;rintro e w3 ⟨rfl,rfl⟩;go_wp2_with fail;refine Ck CR.out fun w4 hu4=>?_;go_wp2;go_ret;exact⟨by rw[HR.out];rfl,U1.out.trans hu4⟩
  ·go_enter Tryz.func9,Tryz.ntmps9;go_wp2_with fail;refine(CN.out).mono ?_;rintro e w3 ⟨rfl,rfl⟩;go_wp2_with fail;refine Ck CR.out fun w4 hu4=>?_;go_wp2;go_ret;exact⟨by rw[HR.out];rfl,U1.out.trans hu4⟩
 ·have HR:=Qh (show Zau p true l tx pl vt vk vn=NM++⟨#[32]⟩++⟨(ZP l l.length).toArray⟩++⟨#[10]⟩ by unfold Zau;rw[iC,if_neg (by simp),if_neg hp]);have n2:=ZnM l;have CR:=Qh (Zvm F wb A c l (HW.out _ hbz) (by omega) kJ.out);obtain⟨RS,qP⟩:=Qe (⟨(ZP l l.length).toArray⟩:Gm);rw[qP]at CR HR n2;have p5:¬9223372036854775807<NM.size+1+RS.size:=by omega
  have p6:¬9223372036854775807<NM.size+1+RS.size+1:=by omega
  have d2:(p==2)=false:=by simp;omega
  have d3:(p==3)=false:=by simp;omega
  clear iC h1 h2 hk qP hp;go_enter Tryz.func9,Tryz.ntmps9;go_wp2_with fail;refine(CN.out).mono ?_;rintro e w3 ⟨rfl,rfl⟩;go_wp2_with fail;refine Ck CR.out fun w4 hu4=>?_;go_wp2;go_ret;exact⟨by rw[HR.out];rfl,U1.out.trans hu4⟩
/- What is said of a history's size;of a transaction. -/
section
variable {P:Gw} {ops:Array Oper} {o:Oper} {a:Act} {Q:Exit->Act->Gy->Prop}
theorem Zd5{W:Gy}{K:Act->Gy->Prop}{E:Prop}(cw:o.guard=none){s x:Operand}{t:Gx}
  (ho:o.op= .call {callee:= .builtin .append,args:= #[s,x],argTypes:= #[t,t]}) {e:Gx} {size bytes:Nat} (hT:SlT P t e size bytes)
  {base:Nat} {v:Gz} {n c:Nat} {ad:Addr} {xs cells:Gl} (hs:a.eval s=v) (hx:a.eval x= .slice (some ad) 2 c)
  (ae:W.ownsRow base e size v n xs) (hl:cells.length=2*size) (dI:∀(j:Nat) v,cells[j]? =some v->W.cell? (ad.add j)=some v) (h1:cells.all (·.oneCell')=true) (hn:n+2<=9223372036854775807)
  (hb:(n+2)*bytes<=140737488355328) (aL:base<=W.heap.size)
  (h:∀g cap w',w'.ownsRow base e size (.slice (some ⟨g,0,none⟩) (n+2) cap) (n+2) (xs++cells)->Upd (Own v) W w'->Grew W v (.slice (some ⟨g,0,none⟩) (n+2) cap)->g<w'.heap.size->
   K (a.put o.dst (.slice (some ⟨g,0,none⟩) (n+2) cap)) w'):
  if Region.wanted o (yielded ops a.tmps)=true then Oper.wp P o a W K Q else E:=by
 obtain⟨ht,i,z,hi,hz,aF,dY,gc,ci⟩:=hT;refine step_append_lies W cw s x t ho base e i z size bytes ht hi hz aF dY gc ci v n xs hs ae ad 2 c cells hx (by omega) dI (by simpa using h1) (by omega) (by simp only[maxLen];omega) hb aL W.heap.size rfl ?_;intro g cap w' h2 h3 h4 h5;refine h g cap w' h2 (Upd.of_grown h3) ?_ h5;rcases h4 with h4|h4
 ·exact .inl h4.symm
 ·exact .inr ⟨g,rfl,by omega⟩
end
def Zbz(a b c u r:Int):Gi:=[⟨#[116,120,115]⟩,Zf a,⟨#[111,114,100,101,114,115]⟩,Zf b,⟨#[119,101,105,103,104,116]⟩,Zf c,⟨#[117,110,100,111]⟩,Zf u,⟨#[114,101,100,111]⟩,Zf r]
def Ziu(a b c u r:Int):Gm:=
 ⟨#[116,120,115,32]⟩++Zf a++⟨#[32,111,114,100,101,114,115,32]⟩++Zf b++⟨#[32,119,101,105,103,104,116,32]⟩++Zf c++⟨#[32,117,110,100,111,32]⟩++Zf u++⟨#[32,114,101,100,111,32]⟩++Zf r++⟨#[10]⟩
theorem Zj7(a b c u r:Int):Zbs (Zbz a b c u r)++⟨#[10]⟩=Ziu a b c u r:=by
 unfold Zbs Zbz Ziu;simp only[Gb,List.map_nil];rw[Lib.join_cons];unfold Lib.joinTail
 apply ByteArray.ext
 simp
theorem Zo8(a b c u r:Int):(Zbs (Zbz a b c u r)).size<=150:=by
 have h:=congrArg ByteArray.size (Zj7 a b c u r);have n1:=Zu a;have n2:=Zu b;have n3:=Zu c;have n4:=Zu u;have n5:=Zu r;have m1:(⟨#[116,120,115,32]⟩:Gm).size=4:=rfl;have m2:(⟨#[32,111,114,100,101,114,115,32]⟩:Gm).size=8:=rfl;have m3:(⟨#[32,119,101,105,103,104,116,32]⟩:Gm).size=8:=rfl;have m4:(⟨#[32,117,110,100,111,32]⟩:Gm).size=6:=rfl;have m5:(⟨#[32,114,101,100,111,32]⟩:Gm).size=6:=rfl;have m6:(⟨#[10]⟩:Gm).size=1:=rfl;unfold Ziu at h;rw[Ex,Ex,Ex,Ex,Ex,Ex,Ex,Ex,Ex,Ex,Ex]at h;omega
theorem Zwn(a b c u r:Int):∀w:Gy,(Instr.index 75 (.agg #[Qi a,Qi b,Qi c,Qi u,Qi r]) (Qi 0)).run Tryz.prog w= .ok (Qi a) w:=fun _=>by kernel_rfl
theorem Zwm(a b c u r:Int):∀w:Gy,(Instr.index 75 (.agg #[Qi a,Qi b,Qi c,Qi u,Qi r]) (Qi 1)).run Tryz.prog w= .ok (Qi b) w:=fun _=>by kernel_rfl
theorem Zwl(a b c u r:Int):∀w:Gy,(Instr.index 75 (.agg #[Qi a,Qi b,Qi c,Qi u,Qi r]) (Qi 2)).run Tryz.prog w= .ok (Qi c) w:=fun _=>by kernel_rfl
theorem Zwk(a b c u r:Int):∀w:Gy,(Instr.index 75 (.agg #[Qi a,Qi b,Qi c,Qi u,Qi r]) (Qi 3)).run Tryz.prog w= .ok (Qi u) w:=fun _=>by kernel_rfl
theorem Zwj(a b c u r:Int):∀w:Gy,(Instr.index 75 (.agg #[Qi a,Qi b,Qi c,Qi u,Qi r]) (Qi 4)).run Tryz.prog w= .ok (Qi r) w:=fun _=>by kernel_rfl
theorem Zvq{F:Gt}(w:Gy)(txs:List HTx)(A:OA)(c:Nat)(B:OA)(m d:Nat)(un re:Int)(H:Recs F w A 3 (txs.map HTx.cells))(hl:txs.length<=1000)(hm:m<=1000)(ho:∀t∈txs,t.ops.length<=4095)(hu:i64 un)(hr:i64 re):
  CN 16 #[.agg #[.slice A txs.length c,.slice B m d],Qi un,Qi re] w (.string (Ziu txs.length m (Zed txs) un re)):=by
 obtain⟨z,hz⟩:=Qe w.heap.size;obtain⟨wb,ah⟩:=Qe (w.alloc (.cells #[.slice A txs.length c,.slice B m d] 29));have sb:wb.heap.size=z+1:=by rw[<-ah,<-hz];simp
 have u1:Upd No w wb:=by rw[<-ah];exact(Gg No w).alloc _
 have bb:Blk wb z 29 [.slice A txs.length c,.slice B m d]:=by rw[<-ah,<-hz];exact Gh w _ _
 have hw:=ZsK ho;have HW:=Qh (fun W (u:Upd No wb W)=>Recs.upd H (u1.trans u) Qo);have Bb:=Qh ho;obtain⟨WG,tQ⟩:=Qe ((Zed txs:Int):Int);have iw:i64 WG:=by unfold i64;omega
 have n1:=Zu (txs.length:Int);have n2:=Zu (m:Int);have n3:=Zu WG;have n4:=Zu un;have n5:=Zu re;rw[tQ];obtain⟨wc,eR⟩:=Qe (wb.alloc (.cells #[.string ⟨#[116,120,115]⟩,.string ⟨#[111,114,100,101,114,115]⟩,.string ⟨#[119,101,105,103,104,116]⟩,.string ⟨#[117,110,100,111]⟩,.string ⟨#[114,101,100,111]⟩] 73));have u2:Upd No wb wc:=by rw[<-eR];exact(Gg No wb).alloc _
 have sc:wc.heap.size=z+2:=by rw[<-eR];simp[sb]
 have bn:Blk wc (z+1) 73 [.string ⟨#[116,120,115]⟩,.string ⟨#[111,114,100,101,114,115]⟩,.string ⟨#[119,101,105,103,104,116]⟩,.string ⟨#[117,110,100,111]⟩,.string ⟨#[114,101,100,111]⟩]:=by rw[<-eR,<-sb];exact Gh wb _ _
 have BN:=Qh bn;have qq:=Qh sc;have C1:=Qh (fun W=>ZbP W (txs.length:Int) (by omega) (by omega));have C2:=Qh (fun W=>ZbP W (m:Int) (by omega) (by omega));have C3:=Qh (fun W=>ZbP W WG iw.1 iw.2);have C4:=Qh (fun W=>ZbP W un hu.1 hu.2);have C5:=Qh (fun W=>ZbP W re hr.1 hr.2);have CG:=Qh (fun W (u:Upd No wc W)=>Zwg (c:=c) (B:=B) (m:=m) (d:=d) (HW.out W (u2.trans u)) hl Bb.out);rw[tQ]at CG;have t0:∀W,Upd No wc W->W.cell? ⟨z,0,none⟩=some (.slice A txs.length c):=fun W u=>((bb.upd u2 id).upd u id).cell 0
 have t1:∀W,Upd No wc W->W.cell? ⟨z,1,none⟩=some (.slice B m d):=fun W u=>((bb.upd u2 id).upd u id).cell 1
 have U2:=Qh (u1.trans u2);clear tQ hw u1 u2 bb bn H ho hl hm hu hr iw n1 n2 n3 n4 n5;go_enter Tryz.func16,Tryz.ntmps16;go_wp2;clear eR ah sb sc;refine wpS (fun W'=>Upd No wc W') ?_ fun hHeld=>?_
 ·(first|exact(Gg _ _).drew|exact hHeld.trans hu4)
 (iterate 7 refine wpF ?_);refine wpK 8 rfl ?_;refine wpK 9 rfl ?_;refine wpK 11 rfl ?_;refine wpZ 7 rfl fun K hK=>?_;go_simp
 (first
  |(go_at_call 35;refine Ck (CG.out _ hHeld) fun w4 hu4=>?_))
 try (go_wp2_with fail)
 refine hK.out _ _ ?_ fun hHeld=>?_
 ·(first|exact(Gg _ _).drew|exact hHeld.trans hu4)
 try simp only[Qa]
 refine wpK 10 rfl ?_;refine wpD (Gd ?_);have sw:=Qh hHeld;clear hHeld;go_wp2
 go_loopg [8,23] 5 (fun gk s i wr=>∃(k:Nat) (ki:Int) (A5:OA) (c5:Nat) (xs:Gi),k+gk=5∧i= Qi ki∧Hid (ki=(k:Int))∧s= .slice A5 xs.length c5∧Hid (xs=(Zbz txs.length m WG un re).take (2*k))∧xs.length<=2*k∧
  Hid (wr.ownsRow wc.heap.size 9 1 (.slice A5 xs.length c5) xs.length (Zbl xs))∧Hid (Upd No wc wr))
 case atStart=>exact⟨0,0,none,0,[],by omega,rfl,Qh rfl,rfl,Qh rfl,by simp,Qh (Gf _ _ _ _),sw⟩
 case round=>
  obtain⟨k,ki,A5,c5,xs,aK,rfl,iQ,rfl,aV,hxl,ae,hu⟩:=hrel;have gd:=Qh ae.out;have dJ:=Qh hu.out;have ik:=Qh (fun i (e:Own (.slice A5 xs.length c5) i)=>(gd.out.lt i e).1);clear ae hu t0 t1;rcases(show k=0∨k=1∨k=2∨k=3∨k=4∨k=5 by omega)with rfl|rfl|rfl|rfl|rfl|rfl
  ·obtain rfl:ki=0:=by have:=iQ.out;omega
   clear iQ;have HS:=Qh (show(Zbz txs.length m WG un re).take (2*(0+1))=(Zbz txs.length m WG un re).take (2*0)++[⟨#[116,120,115]⟩,Zf txs.length] from rfl);have nk:∀W,Upd (fun i=>wc.heap.size<=i) wr W->W.cell? ⟨z+1,0,none⟩=some (.string ⟨#[116,120,115]⟩):=fun W u=>((BN.out.upd dJ.out id).upd u (by have:=qq.out;omega)).cell 0
   have CV:=Qh C1.out;have xk:=Zwn txs.length m WG un re;go_wp2;refine wpS (fun W'=>Upd (fun i=>wc.heap.size<=i) wr W') ?_ fun hHeld=>?_
   ·(first|exact(Gg _ _).drew|exact hq|exact hHeld.trans (hu4.mono (fun _ _ e=>e.elim))|exact hHeld.alloc _)
   (iterate 5 refine wpF ?_);refine wpZ 5 rfl fun K hK=>?_;go_simp
   (first
  |(go_at_call 36;refine Ck (CV.out _) fun w4 hu4=>?_;have cN:=Qh ((Gg No wr).drew.trans hu4)))
   try (go_wp2_with fail)
   refine hK.out _ _ ?_ fun hHeld=>?_
   ·(first|exact(Gg _ _).drew|exact hq|exact hHeld.trans (hu4.mono (fun _ _ e=>e.elim))|exact hHeld.alloc _)
   try simp only[Qa]
   refine wpZ 6 rfl fun K hK=>?_;go_simp;refine hK.out _ _ ?_ fun hHeld=>?_
   ·(first|exact(Gg _ _).drew|exact hq|exact hHeld.trans (hu4.mono (fun _ _ e=>e.elim))|exact hHeld.alloc _)
   try simp only[Qa]
   refine wpZ 7 rfl fun K hK=>?_
   (first
  |(refine Zd5 (by rfl) (by rfl) ZdF (base:=wc.heap.size) (v:= .slice A5 xs.length c5) (n:=xs.length) (xs:=Zbl xs) (cells:=[.string ⟨#[116,120,115]⟩,.string (Zf txs.length)]) (by rfl) (by rfl) (by exact Za gd.out (cN.out.alloc _) Qo) rfl (by exact Zbn) (by rfl) (by omega) (by omega) (by have:=(cN.out.alloc (.cells #[.string ⟨#[116,120,115]⟩,.string (Zf txs.length)] 9)).size;have:=dJ.out.size;omega) ?_;intro g6 c6 w6 av hu6 dC dv;have ec:=Qh av;have hq:Upd (fun i=>wc.heap.size<=i) wr w6:=hHeld.trans (hu6.mono (fun i _ e=>ik.out i e));clear av hu6 dC dv))
   refine hK.out _ _ ?_ fun hHeld=>?_
   ·(first|exact(Gg _ _).drew|exact hq|exact hHeld.trans (hu4.mono (fun _ _ e=>e.elim))|exact hHeld.alloc _)
   try simp only[Qa]
   refine wpK 8 rfl ?_;refine wpD (Gd ?_);go_wp2;go_roundg (gk-1);exact⟨0+1,(((0:Nat)+1:Nat):Int),some ⟨g6,0,none⟩,c6,xs++[⟨#[116,120,115]⟩,Zf txs.length],by omega,rfl,Qh rfl,by simp,Qh (by rw[HS.out,aV.out]),by rw[Fb];simp only[Fs,Fz];omega,Qh (by have:=ec.out;unfold Zbl at*;simpa using this),Qh (dJ.out.then_ hHeld fun i e=> .inr e)⟩;omega
  ·obtain rfl:ki=1:=by have:=iQ.out;omega
   clear iQ;have HS:=Qh (show(Zbz txs.length m WG un re).take (2*(1+1))=(Zbz txs.length m WG un re).take (2*1)++[⟨#[111,114,100,101,114,115]⟩,Zf m] from rfl);have nk:∀W,Upd (fun i=>wc.heap.size<=i) wr W->W.cell? ⟨z+1,1,none⟩=some (.string ⟨#[111,114,100,101,114,115]⟩):=fun W u=>((BN.out.upd dJ.out id).upd u (by have:=qq.out;omega)).cell 1
   have CV:=Qh C2.out;have xk:=Zwm txs.length m WG un re;go_wp2;refine wpS (fun W'=>Upd (fun i=>wc.heap.size<=i) wr W') ?_ fun hHeld=>?_
   ·(first|exact(Gg _ _).drew|exact hq|exact hHeld.trans (hu4.mono (fun _ _ e=>e.elim))|exact hHeld.alloc _)
   (iterate 5 refine wpF ?_);refine wpZ 5 rfl fun K hK=>?_;go_simp
   (first
  |(go_at_call 36;refine Ck (CV.out _) fun w4 hu4=>?_;have cN:=Qh ((Gg No wr).drew.trans hu4)))
   try (go_wp2_with fail)
   refine hK.out _ _ ?_ fun hHeld=>?_
   ·(first|exact(Gg _ _).drew|exact hq|exact hHeld.trans (hu4.mono (fun _ _ e=>e.elim))|exact hHeld.alloc _)
   try simp only[Qa]
   refine wpZ 6 rfl fun K hK=>?_;go_simp;refine hK.out _ _ ?_ fun hHeld=>?_
   ·(first|exact(Gg _ _).drew|exact hq|exact hHeld.trans (hu4.mono (fun _ _ e=>e.elim))|exact hHeld.alloc _)
   try simp only[Qa]
   refine wpZ 7 rfl fun K hK=>?_
   (first
  |(refine Zd5 (by rfl) (by rfl) ZdF (base:=wc.heap.size) (v:= .slice A5 xs.length c5) (n:=xs.length) (xs:=Zbl xs) (cells:=[.string ⟨#[111,114,100,101,114,115]⟩,.string (Zf m)]) (by rfl) (by rfl) (by exact Za gd.out (cN.out.alloc _) Qo) rfl (by exact Zbn) (by rfl) (by omega) (by omega) (by have:=(cN.out.alloc (.cells #[.string ⟨#[111,114,100,101,114,115]⟩,.string (Zf m)] 9)).size;have:=dJ.out.size;omega) ?_;intro g6 c6 w6 av hu6 dC dv;have ec:=Qh av;have hq:Upd (fun i=>wc.heap.size<=i) wr w6:=hHeld.trans (hu6.mono (fun i _ e=>ik.out i e));clear av hu6 dC dv))
   refine hK.out _ _ ?_ fun hHeld=>?_
   ·(first|exact(Gg _ _).drew|exact hq|exact hHeld.trans (hu4.mono (fun _ _ e=>e.elim))|exact hHeld.alloc _)
   try simp only[Qa]
   refine wpK 8 rfl ?_;refine wpD (Gd ?_);go_wp2;go_roundg (gk-1);exact⟨1+1,(((1:Nat)+1:Nat):Int),some ⟨g6,0,none⟩,c6,xs++[⟨#[111,114,100,101,114,115]⟩,Zf m],by omega,rfl,Qh rfl,by simp,Qh (by rw[HS.out,aV.out]),by rw[Fb];simp only[Fs,Fz];omega,Qh (by have:=ec.out;unfold Zbl at*;simpa using this),Qh (dJ.out.then_ hHeld fun i e=> .inr e)⟩;omega
  ·obtain rfl:ki=2:=by have:=iQ.out;omega
   clear iQ;have HS:=Qh (show(Zbz txs.length m WG un re).take (2*(2+1))=(Zbz txs.length m WG un re).take (2*2)++[⟨#[119,101,105,103,104,116]⟩,Zf WG] from rfl);have nk:∀W,Upd (fun i=>wc.heap.size<=i) wr W->W.cell? ⟨z+1,2,none⟩=some (.string ⟨#[119,101,105,103,104,116]⟩):=fun W u=>((BN.out.upd dJ.out id).upd u (by have:=qq.out;omega)).cell 2
   have CV:=Qh C3.out;have xk:=Zwl txs.length m WG un re;go_wp2;refine wpS (fun W'=>Upd (fun i=>wc.heap.size<=i) wr W') ?_ fun hHeld=>?_
   ·(first|exact(Gg _ _).drew|exact hq|exact hHeld.trans (hu4.mono (fun _ _ e=>e.elim))|exact hHeld.alloc _)
   (iterate 5 refine wpF ?_);refine wpZ 5 rfl fun K hK=>?_;go_simp
   (first
  |(go_at_call 36;refine Ck (CV.out _) fun w4 hu4=>?_;have cN:=Qh ((Gg No wr).drew.trans hu4)))
   try (go_wp2_with fail)
   refine hK.out _ _ ?_ fun hHeld=>?_
   ·(first|exact(Gg _ _).drew|exact hq|exact hHeld.trans (hu4.mono (fun _ _ e=>e.elim))|exact hHeld.alloc _)
   try simp only[Qa]
   refine wpZ 6 rfl fun K hK=>?_;go_simp;refine hK.out _ _ ?_ fun hHeld=>?_
   ·(first|exact(Gg _ _).drew|exact hq|exact hHeld.trans (hu4.mono (fun _ _ e=>e.elim))|exact hHeld.alloc _)
   try simp only[Qa]
   refine wpZ 7 rfl fun K hK=>?_
   (first
  |(refine Zd5 (by rfl) (by rfl) ZdF (base:=wc.heap.size) (v:= .slice A5 xs.length c5) (n:=xs.length) (xs:=Zbl xs) (cells:=[.string ⟨#[119,101,105,103,104,116]⟩,.string (Zf WG)]) (by rfl) (by rfl) (by exact Za gd.out (cN.out.alloc _) Qo) rfl (by exact Zbn) (by rfl) (by omega) (by omega) (by have:=(cN.out.alloc (.cells #[.string ⟨#[119,101,105,103,104,116]⟩,.string (Zf WG)] 9)).size;have:=dJ.out.size;omega) ?_;intro g6 c6 w6 av hu6 dC dv;have ec:=Qh av;have hq:Upd (fun i=>wc.heap.size<=i) wr w6:=hHeld.trans (hu6.mono (fun i _ e=>ik.out i e));clear av hu6 dC dv))
   refine hK.out _ _ ?_ fun hHeld=>?_
   ·(first|exact(Gg _ _).drew|exact hq|exact hHeld.trans (hu4.mono (fun _ _ e=>e.elim))|exact hHeld.alloc _)
   try simp only[Qa]
   refine wpK 8 rfl ?_;refine wpD (Gd ?_);go_wp2;go_roundg (gk-1);exact⟨2+1,(((2:Nat)+1:Nat):Int),some ⟨g6,0,none⟩,c6,xs++[⟨#[119,101,105,103,104,116]⟩,Zf WG],by omega,rfl,Qh rfl,by simp,Qh (by rw[HS.out,aV.out]),by rw[Fb];simp only[Fs,Fz];omega,Qh (by have:=ec.out;unfold Zbl at*;simpa using this),Qh (dJ.out.then_ hHeld fun i e=> .inr e)⟩;omega
  ·obtain rfl:ki=3:=by have:=iQ.out;omega
   clear iQ;have HS:=Qh (show(Zbz txs.length m WG un re).take (2*(3+1))=(Zbz txs.length m WG un re).take (2*3)++[⟨#[117,110,100,111]⟩,Zf un] from rfl);have nk:∀W,Upd (fun i=>wc.heap.size<=i) wr W->W.cell? ⟨z+1,3,none⟩=some (.string ⟨#[117,110,100,111]⟩):=fun W u=>((BN.out.upd dJ.out id).upd u (by have:=qq.out;omega)).cell 3
   have CV:=Qh C4.out;have xk:=Zwk txs.length m WG un re;go_wp2;refine wpS (fun W'=>Upd (fun i=>wc.heap.size<=i) wr W') ?_ fun hHeld=>?_
   ·(first|exact(Gg _ _).drew|exact hq|exact hHeld.trans (hu4.mono (fun _ _ e=>e.elim))|exact hHeld.alloc _)
   (iterate 5 refine wpF ?_);refine wpZ 5 rfl fun K hK=>?_;go_simp
   (first
  |(go_at_call 36;refine Ck (CV.out _) fun w4 hu4=>?_;have cN:=Qh ((Gg No wr).drew.trans hu4)))
   try (go_wp2_with fail)
   refine hK.out _ _ ?_ fun hHeld=>?_
   ·(first|exact(Gg _ _).drew|exact hq|exact hHeld.trans (hu4.mono (fun _ _ e=>e.elim))|exact hHeld.alloc _)
   try simp only[Qa]
   refine wpZ 6 rfl fun K hK=>?_;go_simp;refine hK.out _ _ ?_ fun hHeld=>?_
   ·(first|exact(Gg _ _).drew|exact hq|exact hHeld.trans (hu4.mono (fun _ _ e=>e.elim))|exact hHeld.alloc _)
   try simp only[Qa]
   refine wpZ 7 rfl fun K hK=>?_
   (first
  |(refine Zd5 (by rfl) (by rfl) ZdF (base:=wc.heap.size) (v:= .slice A5 xs.length c5) (n:=xs.length) (xs:=Zbl xs) (cells:=[.string ⟨#[117,110,100,111]⟩,.string (Zf un)]) (by rfl) (by rfl) (by exact Za gd.out (cN.out.alloc _) Qo) rfl (by exact Zbn) (by rfl) (by omega) (by omega) (by have:=(cN.out.alloc (.cells #[.string ⟨#[117,110,100,111]⟩,.string (Zf un)] 9)).size;have:=dJ.out.size;omega) ?_;intro g6 c6 w6 av hu6 dC dv;have ec:=Qh av;have hq:Upd (fun i=>wc.heap.size<=i) wr w6:=hHeld.trans (hu6.mono (fun i _ e=>ik.out i e));clear av hu6 dC dv))
   refine hK.out _ _ ?_ fun hHeld=>?_
   ·(first|exact(Gg _ _).drew|exact hq|exact hHeld.trans (hu4.mono (fun _ _ e=>e.elim))|exact hHeld.alloc _)
   try simp only[Qa]
   refine wpK 8 rfl ?_;refine wpD (Gd ?_);go_wp2;go_roundg (gk-1);exact⟨3+1,(((3:Nat)+1:Nat):Int),some ⟨g6,0,none⟩,c6,xs++[⟨#[117,110,100,111]⟩,Zf un],by omega,rfl,Qh rfl,by simp,Qh (by rw[HS.out,aV.out]),by rw[Fb];simp only[Fs,Fz];omega,Qh (by have:=ec.out;unfold Zbl at*;simpa using this),Qh (dJ.out.then_ hHeld fun i e=> .inr e)⟩;omega
  ·obtain rfl:ki=4:=by have:=iQ.out;omega
   clear iQ;have HS:=Qh (show(Zbz txs.length m WG un re).take (2*(4+1))=(Zbz txs.length m WG un re).take (2*4)++[⟨#[114,101,100,111]⟩,Zf re] from rfl);have nk:∀W,Upd (fun i=>wc.heap.size<=i) wr W->W.cell? ⟨z+1,4,none⟩=some (.string ⟨#[114,101,100,111]⟩):=fun W u=>((BN.out.upd dJ.out id).upd u (by have:=qq.out;omega)).cell 4
   have CV:=Qh C5.out;have xk:=Zwj txs.length m WG un re;go_wp2;refine wpS (fun W'=>Upd (fun i=>wc.heap.size<=i) wr W') ?_ fun hHeld=>?_
   ·(first|exact(Gg _ _).drew|exact hq|exact hHeld.trans (hu4.mono (fun _ _ e=>e.elim))|exact hHeld.alloc _)
   (iterate 5 refine wpF ?_);refine wpZ 5 rfl fun K hK=>?_;go_simp
   (first
  |(go_at_call 36;refine Ck (CV.out _) fun w4 hu4=>?_;have cN:=Qh ((Gg No wr).drew.trans hu4)))
   try (go_wp2_with fail)
   refine hK.out _ _ ?_ fun hHeld=>?_
   ·(first|exact(Gg _ _).drew|exact hq|exact hHeld.trans (hu4.mono (fun _ _ e=>e.elim))|exact hHeld.alloc _)
   try simp only[Qa]
   refine wpZ 6 rfl fun K hK=>?_;go_simp;refine hK.out _ _ ?_ fun hHeld=>?_
   ·(first|exact(Gg _ _).drew|exact hq|exact hHeld.trans (hu4.mono (fun _ _ e=>e.elim))|exact hHeld.alloc _)
   try simp only[Qa]
   refine wpZ 7 rfl fun K hK=>?_
   (first
  |(refine Zd5 (by rfl) (by rfl) ZdF (base:=wc.heap.size) (v:= .slice A5 xs.length c5) (n:=xs.length) (xs:=Zbl xs) (cells:=[.string ⟨#[114,101,100,111]⟩,.string (Zf re)]) (by rfl) (by rfl) (by exact Za gd.out (cN.out.alloc _) Qo) rfl (by exact Zbn) (by rfl) (by omega) (by omega) (by have:=(cN.out.alloc (.cells #[.string ⟨#[114,101,100,111]⟩,.string (Zf re)] 9)).size;have:=dJ.out.size;omega) ?_;intro g6 c6 w6 av hu6 dC dv;have ec:=Qh av;have hq:Upd (fun i=>wc.heap.size<=i) wr w6:=hHeld.trans (hu6.mono (fun i _ e=>ik.out i e));clear av hu6 dC dv))
   refine hK.out _ _ ?_ fun hHeld=>?_
   ·(first|exact(Gg _ _).drew|exact hq|exact hHeld.trans (hu4.mono (fun _ _ e=>e.elim))|exact hHeld.alloc _)
   try simp only[Qa]
   refine wpK 8 rfl ?_;refine wpD (Gd ?_);go_wp2;go_roundg (gk-1);exact⟨4+1,(((4:Nat)+1:Nat):Int),some ⟨g6,0,none⟩,c6,xs++[⟨#[114,101,100,111]⟩,Zf re],by omega,rfl,Qh rfl,by simp,Qh (by rw[HS.out,aV.out]),by rw[Fb];simp only[Fs,Fz];omega,Qh (by have:=ec.out;unfold Zbl at*;simpa using this),Qh (dJ.out.then_ hHeld fun i e=> .inr e)⟩;omega
  ·obtain rfl:ki=5:=by have:=iQ.out;omega
   have HJ:Zbs xs=Zbs (Zbz txs.length m WG un re):=by rw[aV.out];rfl
   have ci:=Zo8 txs.length m WG un re;have CJ:=Qh (Zn6 wr xs gd.out (by rw[aV.out];simp[Zbz]) (by omega) (by rw[ZgU,HJ];omega));rw[HJ]at CJ;have HR:=Qh (Zj7 txs.length m WG un re);obtain⟨JS,Ai⟩:=Qe (Zbs (Zbz txs.length m WG un re));rw[Ai]at CJ HR ci;have m1:(⟨#[10]⟩:Gm).size=1:=rfl;have p1:¬9223372036854775807<JS.size+1:=by omega
   clear aV HJ Ai iQ;go_wp2_with fail;refine Ck CJ.out fun w5 hu5=>?_;go_wp2;go_ret;exact⟨by rw[<-HR.out];rfl,U2.out.trans (dJ.out.trans hu5)⟩
def txS(i:Int)(d:Bool)(l:Gu):Gm:=⟨(Za8 i d l).toArray⟩++⟨#[10]⟩
theorem Zo3(i:Int)(d:Bool)(l:Gu):(⟨(Za8 i d l).toArray⟩:Gm).size<=23+71*l.length:=by
 have:=ZhU i d l
 show Array.size _<=_
 rwa [List.size_toArray]
theorem pTx(F:Gt)(w:Gy)(i:Int)(d:Bool)(A:OA)(c:Nat)(l:Gu)(hi:i64 i)(h:HOps F w A l)(hl:l.length<=100000)(aC:∀o∈l,o.ok):
  CN 15 #[.agg #[Qi i,.bool d,.slice A l.length c]] w (.string (txS i d l)):=by
 obtain⟨z,hz⟩:=Qe w.heap.size;obtain⟨wb,ah⟩:=Qe (w.alloc (.cells #[Qi i,.bool d,.slice A l.length c] 53));have ub:Upd No w wb:=by rw[<-ah];exact(Gg No w).alloc _
 have bb:Blk wb z 53 [Qi i,.bool d,.slice A l.length c]:=by rw[<-ah,<-hz];exact Gh w _ _
 obtain⟨t0,t1,t2⟩:=bb.c3;have C:=Qh (Zuj F wb i d A c l hi (HOps.upd h ub Qo) hl aC);have n1:=Zo3 i d l;have HR:Hid (txS i d l=⟨(Za8 i d l).toArray⟩++⟨#[10]⟩):=Qh rfl;obtain⟨TX,yu⟩:=Qe (⟨(Za8 i d l).toArray⟩:Gm);rw[yu]at C n1 HR;have m1:(⟨#[10]⟩:Gm).size=1:=rfl;have p1:¬9223372036854775807<TX.size+1:=by omega
 have UB:=Qh ub;clear bb ub h hi aC yu;go_enter Tryz.func15,Tryz.ntmps15;go_wp2_with fail;refine Ck C.out fun w1 hu1=>?_;go_wp2;go_ret;exact⟨by rw[HR.out];rfl,UB.out.trans hu1⟩
/- Lines,and ok. -/
def Zim(F:Gt)(w:Gy)(A:OA)(xs:Gi):Prop:=
 xs≠[]->∃ad,A=some ad∧F ad.block∧ad.block<w.heap.size∧∀(j:Nat) (v:Gm),xs[j]? =some v->w.cell? (ad.add j)=some (.string v)
namespace Zim
variable {F S:Gt} {w w':Gy} {A:OA} {xs:Gi}
theorem at_(h:Zim F w A xs){k:Nat}(hk:k<xs.length):∃ad,A=some ad∧F ad.block∧ad.block<w.heap.size∧w.cell? (ad.add k)=some (.string xs[k]):=by
 obtain⟨ad,e,hf,hl,hc⟩:=h (by intro e;subst e;simp at hk);exact⟨ad,e,hf,hl,hc k _ (Qg hk)⟩
theorem upd(h:Zim F w A xs)(k:Upd S w w')(hn:∀i,F i->¬S i):Zim F w' A xs:=fun hne=>by
 obtain⟨ad,e,hf,hl,hc⟩:=h hne;exact⟨ad,e,hf,Fe hl k.size,fun j v hj=>(k.cell (by rw[Ints.block_add];exact hl) (by rw[Ints.block_add];exact hn _ hf)).trans (hc j v hj)⟩
end Zim
def Zb4(l:Gi):Gk:=l.flatMap fun s=>s.data.toList++[10]
theorem ZmW{l:Gi}{k:Nat}{x:Gm}(hk:k<l.length)(hx:l[k]=x):Zb4 (l.take (k+1))=Zb4 (l.take k)++(x++⟨#[10]⟩:Gm).data.toList:=by
 subst hx;unfold Zb4;rw[Es hk,List.flatMap_append];simp
theorem Zi3{l:Gi}{M:Nat}(hs:∀s∈l,s.size<=M):(Zb4 l).length<=(M+1)*l.length:=by
 induction l with
 |nil=>simp[Zb4]
 |cons s l ih=>
  have h1:=hs s (Fc ..);have h2:=ih fun x hx=>hs x (E7 _ hx)
  have e:=Zk8 s;unfold Zb4 at*;rw[List.flatMap_cons,Fb,Fb,show(s::l).length=l.length+1 from rfl,Nat.mul_add];simp only[Fs,Fz];omega
def Zl5(l:Gi):Gm:=⟨(Zb4 l).toArray⟩++Zbc 0
theorem ZpD(F:Gt)(w:Gy)(A:OA)(c:Nat)(l:Gi)(h:Zim F w A l)(hl:l.length<=1000)(hs:∀s∈l,s.size<=1000):
  CN 17 #[.slice A l.length c] w (.string (Zl5 l)):=by
 obtain⟨z,hz⟩:=Qe w.heap.size;obtain⟨wb,ah⟩:=Qe (w.alloc (.cells #[.pointer none,.slice none 0 0] 79));have hb0:BSx w z [] wb:=by rw[<-ah,<-hz];exact BSx.fresh w
 have b8:Hid (BSx w z (Zb4 (l.take 0)) wb):=Qh hb0;have HH:=Qh (fun W (u:Upd No w W)=>h.upd u Qo);have HS:=Qh hs;have HZ:=Qh hz;clear h hs hb0;go_enter Tryz.func17,Tryz.ntmps17;go_wp2
 go_loopg [8] l.length (fun gk j wr=>∃k:Nat,k+gk=l.length∧j= Qi (k:Int)∧Hid (BSx w z (Zb4 (l.take k)) wr))
 case atStart=>exact⟨0,by omega,rfl,b8⟩
 case round=>
  obtain⟨k,aK,rfl,ag⟩:=hrel
  by_cases hlt:k<l.length
  ·obtain⟨ad,aA,_,_,q0⟩:=(HH.out _ ag.out.upd).at_ hlt;obtain⟨x,hx⟩:=Qe (l[k]);rw[hx]at q0;subst aA;have b1:(0:Int)<=(k:Int):=Qn _;have b2:(k:Int)<(l.length:Int):=by omega
   have n2:x.size<=1000:=HS.out x (hx▸Fr hlt);have m1:(⟨#[10]⟩:Gm).size=1:=rfl;have p3:¬9223372036854775807<x.size+1:=by omega
   have HE:=Qh (ZmW hlt hx);have cF:=Zi3 (l:=l.take k) (M:=1000) fun s hs=>HS.out s (List.mem_of_mem_take hs)
   rw[Fl]at cF;have qb:(Zb4 (l.take k)).length+(x++⟨#[10]⟩:Gm).size<=140737488355328:=by rw[Ex];omega
   have HW:=Qh (ag.out.write (x++⟨#[10]⟩) qb);rw[<-HE.out]at HW;clear hx cF qb;go_wp2_with fail;refine Ck HW.out fun w6 hb6=>?_;have fE:=Qh hb6;clear hb6;go_wp2;go_roundg (gk-1);exact⟨k+1,by omega,by go_num,fE⟩;omega
  ·obtain rfl:k=l.length:=by omega
   have aD:=Qh (ag.out.str (by have:=HZ.out;omega));rw[Fj]at aD;have cF:=Zi3 HS.out;have ox:(⟨(Zb4 l).toArray⟩:Gm).size=(Zb4 l).length:=by show Array.size _=_;rw[List.size_toArray]
   have m3:(Zbc 0).size=3:=rfl;have p4:¬9223372036854775807<(⟨(Zb4 l).toArray⟩:Gm).size+(Zbc 0).size:=by omega
   have HD:=Qh (fun W=>Zk7 W 0);clear ox cF m3;go_wp2_with fail;refine Ck aD.out fun w7 hu7=>?_;go_wp2_with fail;refine Ck (HD.out _) fun w8 hu8=>?_;go_wp2;go_ret;exact⟨rfl,hu7.trans hu8⟩
/- Walks:the contracts with their values named. -/
section
variable {F G:Gt} {w:Gy} {A B:OA} {c d n m:Nat} {l k:List Edge}
def WalkX(w:Gy)(A:OA)(l:List Edge):Prop:=∃F,Walk F w A l
theorem Zu6{v:Bool}(h:WalkX w A l)(hk:WalkX w B k)(hl:l.length<=1000000)(aN:k.length<=1000000)(hn:l.length=n)(hm:k.length=m)(hv:(l==k)=v):CN 27 #[.slice A n c,.slice B m d] w (.bool v):=by subst hn hm hv;obtain⟨F,h⟩:=h;obtain⟨G,hk⟩:=hk;exact ZtJ w F G A B c d l k h hk (by omega) (by omega)
def ZuN(w:Gy)(l:List Edge)(n:Nat)(e:Ending)(w':Gy):Prop:=∃A c,e= .returned (.slice A n c)∧WalkX w' A l∧Upd No w w'
theorem WalkX.upd{w w':Gy}(h:WalkX w A l)(k:Upd No w w'):WalkX w' A l:=by
 obtain⟨F,h⟩:=h;exact⟨F,Recs.upd h k Qo⟩
end
theorem ZoX{w:Gy}{A:OA}:WalkX w A []:=⟨fun _=>False,fun h=>absurd rfl h⟩
