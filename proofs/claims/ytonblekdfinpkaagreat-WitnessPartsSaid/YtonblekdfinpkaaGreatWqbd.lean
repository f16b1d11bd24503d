/- A walk's text: the program's. -/
import Derived.Test.YtonblekdfinpkaaGreatProg
import Derived.Test.YtonblekdfinpkaaGreatWqak
import Derived.Test.YtonblekdfinpkaaGreatWqap
import Derived.Test.YtonblekdfinpkaaGreatWqau
import Derived.Test.YtonblekdfinpkaaGreatWqaw
import Derived.Test.YtonblekdfinpkaaGreatWqay
namespace Go.Proofs.YtonblekdfinpkaaGreat
set_option linter.unusedVariables false
set_option linter.unusedSimpArgs false
section
open Go.RowKit
set_option maxRecDepth 100000 in
set_option maxHeartbeats 1000000 in
theorem Ztj (F:Nat→Prop) (w:World) (A:Option Addr) (c:Nat) (l:List Edge) (h:Walk F w A l) (hl:l.length≤1000000) (hok:∀e∈l,e.ok):
  Calls Tryz.prog 47 #[.slice A l.length c] w fun e w'=>e= .returned (.string ⟨(Zan l l.length).toArray⟩)∧Upd No w w':=by
 go_enter Tryz.func47,Tryz.ntmps47
 go_wp2
 go_loopg [8] l.length (fun gk i wr=>∃(k:Nat) (G:Nat→Prop),k+gk=l.length∧i= .int .i64 k∧Bld wr G w.heap.size (Zan l k)∧(∀j,G j→w.heap.size≤j∧j<wr.heap.size)∧Upd No w wr)
 case atStart=>exact⟨0,_,by omega,rfl,Bld.fresh w,fun j hj=>⟨by omega,by simp;omega⟩,(Upd.refl _ _).alloc _⟩
 case round=>
  obtain⟨k,G,hgk,rfl,hb,hG,hu⟩:=hrel
  by_cases hlt:k<l.length
  ·obtain⟨ad,rfl,c0,c1,c2,c3⟩:=(h.upd hu (fun _ _=>id)).at_ hlt;obtain⟨x,hx⟩:∃x,l[k]=x:=⟨_,rfl⟩;rw[hx]at c0 c1 c2 c3;have hX:l[k]? =some x:=by rw[Qg hlt,hx]
   have hk:=Qh (hok x (by rw[←hx];exact List.getElem_mem hlt));clear hx;have hnew:=(Blk.new wr 26 x.cells);have d0:(wr.alloc (.cells x.cells.toArray 26)).cell? ⟨wr.heap.size,0,none⟩=some (.int .i64 x.f):=hnew.cell 0;have d1:(wr.alloc (.cells x.cells.toArray 26)).cell? ⟨wr.heap.size,1,none⟩=some (.int .i64 x.t):=hnew.cell 1;have d2:(wr.alloc (.cells x.cells.toArray 26)).cell? ⟨wr.heap.size,2,none⟩=some (.int .i64 x.k):=hnew.cell 2;have d3:(wr.alloc (.cells x.cells.toArray 26)).cell? ⟨wr.heap.size,3,none⟩=some (.int .i64 x.key):=hnew.cell 3;have D:=Qh (And.intro d0 (And.intro d1 (And.intro d2 d3)));have hba:=hb.upd ((Upd.refl No wr).alloc (.cells x.cells.toArray 26)) (fun _ _=>id);have HG:=Qh hG;clear d0 d1 d2 d3 hnew hG
   by_cases hk0:k=0
   ·have hkb:((k:Int)==0)=true:=by rw[beq_iff_eq];omega
    have hm:=Qh (show Zan l (k+1)=Zcu x.f++Zgm x by
     conv=>lhs;unfold Zan
     rw[hX];simp[hk0])
    have hm0:=Qh (show Zan l k=[] by rw[hk0];rfl);clear hX hk0;have n4:=Zdn x.f;have HN:¬G wr.heap.size:=fun e=>by have:=(HG.out _ e).2;omega
    have hl00:(Zan l k).length=0:=by rw[hm0.out];rfl
    go_wp2_with fail
    refine(ZmZ _ _ hk.out.1.1 hk.out.1.2).mono ?_;rintro e w1 ⟨rfl,hu1⟩;have u1:=hu1
    go_wp2_with fail
    refine(Zi7 _ G w.heap.size (Zan l k) _ (hba.upd u1 (fun _ _=>id)) (by omega)).mono ?_;rintro e w2 ⟨rfl,G1,hB1,hu2,hG1⟩;have hB1s:Zan l k++(ZbM x.f).data.toList=Zcu x.f:=by rw[hm0.out];rfl
    rw[hB1s]at hB1;have hsa:wr.heap.size<w1.heap.size:=by have:=u1.size;simp at this;omega
    have HN1:¬G1 wr.heap.size:=fun e=>by
     rcases hG1 _ e with h|h
     ·exact HN h
     ·omega
    have HG1:∀j,G1 j→w.heap.size≤j:=fun j hj=>by
     rcases hG1 _ hj with h|h
     ·exact(HG.out j h).1
     ·have:=hu.size;omega
    have hua:Upd No w w2:=((hu.alloc (.cells x.cells.toArray 26)).trans u1).then_ hu2 fun j hj=> .inr (HG.out j hj).1
    have g1:w2.cell? ⟨wr.heap.size,1,none⟩=some (.int .i64 x.t):=hu2.keep (u1.keepNo D.out.2.1) HN;have g2:w2.cell? ⟨wr.heap.size,2,none⟩=some (.int .i64 x.k):=hu2.keep (u1.keepNo D.out.2.2.1) HN;have g3:w2.cell? ⟨wr.heap.size,3,none⟩=some (.int .i64 x.key):=hu2.keep (u1.keepNo D.out.2.2.2) HN;have HG1':=Qh HG1;clear hba hG1 HG1 hB1s HN hu1 u1 hm0 hl00 hu2;have hl0:=Zd0 x.f;have n0:=Ze2 x.k;have n1:=Zdn x.key;have n2:=Zdn x.t;have n3:(⟨#[32]⟩:ByteArray).size=1:=rfl;have q1:¬9223372036854775807<1+(Zbh x.k).size:=by omega
    have q2:¬9223372036854775807<1+(Zbh x.k).size+(ZbM x.key).size:=by omega
    have q3:¬9223372036854775807<1+(Zbh x.k).size+(ZbM x.key).size+1:=by omega
    have q4:¬9223372036854775807<1+(Zbh x.k).size+(ZbM x.key).size+1+(ZbM x.t).size:=by omega
    have e00:Upd No w2 w2.drew:=(Upd.refl No w2).drew;have e0:Upd G1 w2 w2.drew:=(Upd.refl G1 w2).drew;have e1:w2.drew.cell? ⟨wr.heap.size,1,none⟩=some (.int .i64 x.t):=g1;have e2:w2.drew.cell? ⟨wr.heap.size,2,none⟩=some (.int .i64 x.k):=g2;have e3:w2.drew.cell? ⟨wr.heap.size,3,none⟩=some (.int .i64 x.key):=g3
    go_wp2_with fail
    go_region_held3 (fun w'=>Upd G1 w2 w'∧w'.cell? ⟨wr.heap.size,1,none⟩=some (.int .i64 x.t)∧w'.cell? ⟨wr.heap.size,2,none⟩=some (.int .i64 x.k)∧w'.cell? ⟨wr.heap.size,3,none⟩=some (.int .i64 x.key))
     (first
      |(with_reducible exact⟨e0,e1,e2,e3⟩)
      |(with_reducible exact⟨hU,k1,k2,k3⟩))
     (first
      |(go_at_call 99;refine(Zoh _ x.k).mono ?_;rintro e w3 ⟨rfl,hu2⟩;have hV:Upd No w2 w3:=Upd.trans (by first|exact hV|exact e00) hu2;have hU:Upd G1 w2 w3:=hV.mono (fun _ _ h=>h.elim);have k1:w3.cell? ⟨wr.heap.size,1,none⟩=some (.int .i64 x.t):=hu2.keepNo (by first|exact k1|exact e1);have k2:w3.cell? ⟨wr.heap.size,2,none⟩=some (.int .i64 x.k):=hu2.keepNo (by first|exact k2|exact e2);have k3:w3.cell? ⟨wr.heap.size,3,none⟩=some (.int .i64 x.key):=hu2.keepNo (by first|exact k3|exact e3))
      |(go_at_call 98;refine(ZmZ _ _ ?_ ?_).mono ?_;(first|exact hk.out.2.2.1|exact hk.out.2.1.1);(first|exact hk.out.2.2.2|exact hk.out.2.1.2);rintro e w3 ⟨rfl,hu2⟩;have hV:Upd No w2 w3:=Upd.trans (by first|exact hV|exact e00) hu2;have hU:Upd G1 w2 w3:=hV.mono (fun _ _ h=>h.elim);have k1:w3.cell? ⟨wr.heap.size,1,none⟩=some (.int .i64 x.t):=hu2.keepNo (by first|exact k1|exact e1);have k2:w3.cell? ⟨wr.heap.size,2,none⟩=some (.int .i64 x.k):=hu2.keepNo (by first|exact k2|exact e2);have k3:w3.cell? ⟨wr.heap.size,3,none⟩=some (.int .i64 x.key):=hu2.keepNo (by first|exact k3|exact e3))
      |(go_at_call 97;refine(Zi7 _ G1 w.heap.size (Zcu x.f) _ (hB1.upd hV (fun _ _=>id)) ?_).mono ?_;(simp only[ByteArray.size_append,n3];omega);rintro e w3 ⟨rfl,G',hB',hu2,hG'⟩;have hU:Upd G1 w2 w3:=Upd.trans (hV.mono (fun _ _ h=>h.elim)) hu2;have k1:w3.cell? ⟨wr.heap.size,1,none⟩=some (.int .i64 x.t):=hu2.keep (by first|exact k1|exact e1) HN1;have k2:w3.cell? ⟨wr.heap.size,2,none⟩=some (.int .i64 x.k):=hu2.keep (by first|exact k2|exact e2) HN1;have k3:w3.cell? ⟨wr.heap.size,3,none⟩=some (.int .i64 x.key):=hu2.keep (by first|exact k3|exact e3) HN1))
    have HS:Hid (Zcu x.f++((⟨#[32]⟩:ByteArray)++Zbh x.k++ZbM x.key++⟨#[32]⟩++ZbM x.t).data.toList=Zan l (k+1)):=Qh (by
     rw[hm.out,show(⟨#[32]⟩:ByteArray)=⟨[32].toArray⟩ from rfl];unfold Zbh ZbM Zgm;simp only[ZiI])
    rw[HS.out]at hB';have hsz2:=hU.size;have hsz1:=hua.size;have hB2:=hB'.lt';clear hB';clear q1 q2 q3 q4 e0 e1 e2 e3 k1 k2 k3 n3;go_wp2
    go_roundg (gk-1)
    case measure=>omega
    case rel=>exact⟨k+1,_,by omega,by go_num,hB2,fun j hj=>⟨hj.2.1,hj.1⟩,hua.then_ hU fun j hj=> .inr (HG1'.out j hj)⟩
   ·have hkb:((k:Int)==0)=false:=by rw[beq_eq_false_iff_ne];omega
    have hm:=Qh (show Zan l (k+1)=Zan l k++Zgm x by
     conv=>lhs;unfold Zan
     rw[hX];simp[hk0])
    clear hX hk0;have hl0:=ZnX l k;have n0:=Ze2 x.k;have n1:=Zdn x.key;have n2:=Zdn x.t;have n3:(⟨#[32]⟩:ByteArray).size=1:=rfl;have q1:¬9223372036854775807<1+(Zbh x.k).size:=by omega
    have q2:¬9223372036854775807<1+(Zbh x.k).size+(ZbM x.key).size:=by omega
    have q3:¬9223372036854775807<1+(Zbh x.k).size+(ZbM x.key).size+1:=by omega
    have q4:¬9223372036854775807<1+(Zbh x.k).size+(ZbM x.key).size+1+(ZbM x.t).size:=by omega
    go_wp2_with fail
    obtain⟨wa,hwa⟩:∃wa,wa=(wr.alloc (.cells #[.int .i64 x.f,.int .i64 x.t,.int .i64 x.k,.int .i64 x.key] 26)):=⟨_,rfl⟩;have HN:¬G wr.heap.size:=fun e=>by have:=(HG.out _ e).2;omega
    have hwb:wr.heap.size<wa.heap.size:=by rw[hwa];simp
    have hua:Upd No wr wa:=by rw[hwa];exact(Upd.refl No wr).alloc _
    have e00:Upd No wa wa.drew:=(Upd.refl No wa).drew;have e0:Upd G wa wa.drew:=(Upd.refl G wa).drew;have e1:wa.drew.cell? ⟨wr.heap.size,1,none⟩=some (.int .i64 x.t):=by rw[hwa];exact D.out.2.1
    have e2:wa.drew.cell? ⟨wr.heap.size,2,none⟩=some (.int .i64 x.k):=by rw[hwa];exact D.out.2.2.1
    have e3:wa.drew.cell? ⟨wr.heap.size,3,none⟩=some (.int .i64 x.key):=by rw[hwa];exact D.out.2.2.2
    have hBA:Bld wa G w.heap.size (Zan l k):=by rw[hwa];exact hba
    rw[←hwa];clear hba hwa
    go_region_held3 (fun w'=>Upd G wa w'∧w'.cell? ⟨wr.heap.size,1,none⟩=some (.int .i64 x.t)∧w'.cell? ⟨wr.heap.size,2,none⟩=some (.int .i64 x.k)∧w'.cell? ⟨wr.heap.size,3,none⟩=some (.int .i64 x.key))
     (first
      |(with_reducible exact⟨e0,e1,e2,e3⟩)
      |(with_reducible exact⟨hU,k1,k2,k3⟩))
     (first
      |(go_at_call 99;refine(Zoh _ x.k).mono ?_;rintro e w2 ⟨rfl,hu2⟩;have hV:Upd No wa w2:=Upd.trans (by first|exact hV|exact e00) hu2;have hU:Upd G wa w2:=hV.mono (fun _ _ h=>h.elim);have k1:w2.cell? ⟨wr.heap.size,1,none⟩=some (.int .i64 x.t):=hu2.keepNo (by first|exact k1|exact e1);have k2:w2.cell? ⟨wr.heap.size,2,none⟩=some (.int .i64 x.k):=hu2.keepNo (by first|exact k2|exact e2);have k3:w2.cell? ⟨wr.heap.size,3,none⟩=some (.int .i64 x.key):=hu2.keepNo (by first|exact k3|exact e3))
      |(go_at_call 98;refine(ZmZ _ _ ?_ ?_).mono ?_;(first|exact hk.out.2.2.1|exact hk.out.2.1.1);(first|exact hk.out.2.2.2|exact hk.out.2.1.2);rintro e w2 ⟨rfl,hu2⟩;have hV:Upd No wa w2:=Upd.trans (by first|exact hV|exact e00) hu2;have hU:Upd G wa w2:=hV.mono (fun _ _ h=>h.elim);have k1:w2.cell? ⟨wr.heap.size,1,none⟩=some (.int .i64 x.t):=hu2.keepNo (by first|exact k1|exact e1);have k2:w2.cell? ⟨wr.heap.size,2,none⟩=some (.int .i64 x.k):=hu2.keepNo (by first|exact k2|exact e2);have k3:w2.cell? ⟨wr.heap.size,3,none⟩=some (.int .i64 x.key):=hu2.keepNo (by first|exact k3|exact e3))
      |(go_at_call 97;refine(Zi7 _ G w.heap.size (Zan l k) _ (hBA.upd hV (fun _ _=>id)) ?_).mono ?_;(simp only[ByteArray.size_append,n3];omega);rintro e w2 ⟨rfl,G',hB',hu2,hG'⟩;have hU:Upd G wa w2:=Upd.trans (hV.mono (fun _ _ h=>h.elim)) hu2;have k1:w2.cell? ⟨wr.heap.size,1,none⟩=some (.int .i64 x.t):=hu2.keep (by first|exact k1|exact e1) HN;have k2:w2.cell? ⟨wr.heap.size,2,none⟩=some (.int .i64 x.k):=hu2.keep (by first|exact k2|exact e2) HN;have k3:w2.cell? ⟨wr.heap.size,3,none⟩=some (.int .i64 x.key):=hu2.keep (by first|exact k3|exact e3) HN))
    have HS:Hid (Zan l k++((⟨#[32]⟩:ByteArray)++Zbh x.k++ZbM x.key++⟨#[32]⟩++ZbM x.t).data.toList=Zan l (k+1)):=Qh (by
     rw[hm.out,show(⟨#[32]⟩:ByteArray)=⟨[32].toArray⟩ from rfl];unfold Zbh ZbM Zgm;simp only[ZiI])
    rw[HS.out]at hB';have hsz2:=hU.size;have hsz1:=hua.size;have hB2:=hB'.lt';clear hB';clear q1 q2 q3 q4 e0 e1 e2 e3 k1 k2 k3 n3;go_wp2
    go_roundg (gk-1)
    case measure=>omega
    case rel=>exact⟨k+1,_,by omega,by go_num,hB2,fun j hj=>⟨hj.2.1,hj.1⟩,(hu.trans hua).then_ hU fun j hj=> .inr (HG.out j hj).1⟩
  ·obtain rfl:k=l.length:=by omega
   go_wp2_with (refine(Zqw _ _ _ _ hb).mono ?_;rintro e w' ⟨rfl,hbl⟩)
   go_ret
   exact⟨rfl,hu.then_ (T:=fun j=>w.heap.size≤j) ⟨hbl.os,hbl.tape,hbl.output,hbl.size,fun j hj hn=>hbl.block j (by omega)⟩ fun j hj=> .inr hj⟩
end
/- Walks:the contracts with their values named. -/
section
open Go.RowKit
section
variable {F G:Nat→Prop} {w:World} {A B:Option Addr} {c d n m:Nat} {l k:List Edge}
def WalkX (w:World) (A:Option Addr) (l:List Edge):Prop:=∃F,Walk F w A l
theorem Zs9 {v:ByteArray} (h:WalkX w A l) (hl:l.length≤1000000) (hok:∀e∈l,e.ok) (hn:l.length=n) (hv:(⟨(Zan l l.length).toArray⟩:ByteArray)=v):Calls Tryz.prog 47 #[.slice A n c] w fun e w'=>e= .returned (.string v)∧Upd No w w':=by subst hn hv;obtain⟨F,h⟩:=h;exact Ztj F w A c l h hl hok
theorem Zts {v:Bool} (h:WalkX w A l) (hk:WalkX w B k) (hl:l.length≤1000000) (hn:l.length=n) (hm:k.length=m) (hv:Zx l k=v):Calls Tryz.prog 27 #[.slice A n c,.slice B m d] w fun e w'=>e= .returned (.bool v)∧Upd No w w':=by subst hn hm hv;obtain⟨F,h⟩:=h;obtain⟨G,hk⟩:=hk;exact Zs5 F G w A B c d l k h hk hl
theorem ZmS {v:Bool} (h:WalkX w A l) (hk:WalkX w B k) (hl:l.length≤1000000) (hl2:k.length≤1000000) (hn:l.length=n) (hm:k.length=m) (hv:(l==k)=v):Calls Tryz.prog 54 #[.slice A n c,.slice B m d] w fun e w'=>e= .returned (.bool v)∧Upd No w w':=by subst hn hm hv;obtain⟨F,h⟩:=h;obtain⟨G,hk⟩:=hk;exact Zr3 w F G A B c d l k h hk (by omega) (by omega)
def Turned (w:World) (l:List Edge) (n:Nat) (e:Ending) (w':World):Prop:=∃A c,e= .returned (.slice A n c)∧WalkX w' A l∧Upd No w w'
theorem WalkX.upd {w w':World} (h:WalkX w A l) (k:Upd No w w'):WalkX w' A l:=by
 obtain⟨F,h⟩:=h;exact⟨F,Recs.upd h k (fun _ _=>id)⟩
end
theorem ZnQ {w:World} {A:Option Addr}:WalkX w A []:=⟨fun _=>False,fun h=>absurd rfl h⟩
end
end Go.Proofs.YtonblekdfinpkaaGreat
