/- A walk's text: the program's. -/
import Derived.Test.YtdbjokfejmgepaaRaaf
import Derived.Test.YtdbjokfejmgepaaRaao
import Derived.Test.YtdbjokfejmgepaaRaau
namespace Go.Proofs.Ytdbjokfejmgepaa
set_option linter.unusedVariables false
set_option linter.unusedSimpArgs false
section
open Go.RowKit
set_option maxRecDepth 100000 in
set_option maxHeartbeats 1000000 in
theorem Znr (F:Nat→Prop) (w:World) (A:Option Addr) (c:Nat) (l:List Edge) (h:Walk F w A l) (hl:l.length≤1000000) (hok:∀e∈l,e.ok):
  Calls Try.prog 29 #[.slice A l.length c] w fun e w'=>e= .returned (.string ⟨(Zq l l.length).toArray⟩)∧Upd No w w':=by
 go_enter Try.func29,Try.ntmps29
 go_wp2
 go_loopg [8] l.length (fun gk i wr=>∃(k:Nat) (G:Nat→Prop),k+gk=l.length∧i= .int .i64 k∧Bld wr G w.heap.size (Zq l k)∧(∀j,G j→w.heap.size≤j∧j<wr.heap.size)∧Upd No w wr)
 case atStart=>exact⟨0,_,by omega,rfl,Bld.fresh w,fun j hj=>⟨by omega,by simp;omega⟩,(Upd.refl _ _).alloc _⟩
 case round=>
  obtain⟨k,G,hgk,rfl,hb,hG,hu⟩:=hrel
  by_cases hlt:k<l.length
  ·obtain⟨ad,rfl,c0,c1,c2,c3⟩:=(h.upd hu (fun _ _=>id)).at_ hlt;obtain⟨x,hx⟩:∃x,l[k]=x:=⟨_,rfl⟩;rw[hx]at c0 c1 c2 c3;have hX:l[k]? =some x:=by rw[Qg hlt,hx]
   have hk:=Qh (hok x (by rw[←hx];exact List.getElem_mem hlt));clear hx;have hnew:=(Blk.new wr 89 x.cells);have d0:(wr.alloc (.cells x.cells.toArray 89)).cell? ⟨wr.heap.size,0,none⟩=some (.int .i64 x.f):=hnew.cell 0;have d1:(wr.alloc (.cells x.cells.toArray 89)).cell? ⟨wr.heap.size,1,none⟩=some (.int .i64 x.t):=hnew.cell 1;have d2:(wr.alloc (.cells x.cells.toArray 89)).cell? ⟨wr.heap.size,2,none⟩=some (.int .i64 x.k):=hnew.cell 2;have d3:(wr.alloc (.cells x.cells.toArray 89)).cell? ⟨wr.heap.size,3,none⟩=some (.int .i64 x.key):=hnew.cell 3;have D:=Qh (And.intro d0 (And.intro d1 (And.intro d2 d3)));have hba:=hb.upd ((Upd.refl No wr).alloc (.cells x.cells.toArray 89)) (fun _ _=>id);have HG:=Qh hG;clear d0 d1 d2 d3 hnew hG
   by_cases hk0:k=0
   ·have hkb:((k:Int)==0)=true:=by rw[beq_iff_eq];omega
    have hm:=Qh (show Zq l (k+1)=ZaP x.f++Zcf x by
     conv=>lhs;unfold Zq
     rw[hX];simp[hk0])
    have hm0:=Qh (show Zq l k=[] by rw[hk0];rfl);clear hX hk0;have n4:=Zb x.f;have HN:¬G wr.heap.size:=fun e=>by have:=(HG.out _ e).2;omega
    have hl00:(Zq l k).length=0:=by rw[hm0.out];rfl
    go_wp2_with fail
    refine(Zav _ _ hk.out.1.1 hk.out.1.2).mono ?_;rintro e w1 ⟨rfl,hu1⟩;have u1:=hu1
    go_wp2_with fail
    refine(Zet _ G w.heap.size (Zq l k) _ (hba.upd u1 (fun _ _=>id)) (by omega)).mono ?_;rintro e w2 ⟨rfl,G1,hB1,hu2,hG1⟩;have hB1s:Zq l k++(Za x.f).data.toList=ZaP x.f:=by rw[hm0.out];rfl
    rw[hB1s]at hB1;have hsa:wr.heap.size<w1.heap.size:=by have:=u1.size;simp at this;omega
    have HN1:¬G1 wr.heap.size:=fun e=>by
     rcases hG1 _ e with h|h
     ·exact HN h
     ·omega
    have HG1:∀j,G1 j→w.heap.size≤j:=fun j hj=>by
     rcases hG1 _ hj with h|h
     ·exact(HG.out j h).1
     ·have:=hu.size;omega
    have hua:Upd No w w2:=((hu.alloc (.cells x.cells.toArray 89)).trans u1).then_ hu2 fun j hj=> .inr (HG.out j hj).1
    have g1:w2.cell? ⟨wr.heap.size,1,none⟩=some (.int .i64 x.t):=hu2.keep (u1.keepNo D.out.2.1) HN;have g2:w2.cell? ⟨wr.heap.size,2,none⟩=some (.int .i64 x.k):=hu2.keep (u1.keepNo D.out.2.2.1) HN;have g3:w2.cell? ⟨wr.heap.size,3,none⟩=some (.int .i64 x.key):=hu2.keep (u1.keepNo D.out.2.2.2) HN;have HG1':=Qh HG1;clear hba hG1 HG1 hB1s HN hu1 u1 hm0 hl00 hu2;have hl0:=Zb6 x.f;have n0:=ZbH x.k;have n1:=Zb x.key;have n2:=Zb x.t;have n3:(⟨#[32]⟩:ByteArray).size=1:=rfl;have q1:¬9223372036854775807<1+(Zw x.k).size:=by omega
    have q2:¬9223372036854775807<1+(Zw x.k).size+(Za x.key).size:=by omega
    have q3:¬9223372036854775807<1+(Zw x.k).size+(Za x.key).size+1:=by omega
    have q4:¬9223372036854775807<1+(Zw x.k).size+(Za x.key).size+1+(Za x.t).size:=by omega
    have e00:Upd No w2 w2.drew:=(Upd.refl No w2).drew;have e0:Upd G1 w2 w2.drew:=(Upd.refl G1 w2).drew;have e1:w2.drew.cell? ⟨wr.heap.size,1,none⟩=some (.int .i64 x.t):=g1;have e2:w2.drew.cell? ⟨wr.heap.size,2,none⟩=some (.int .i64 x.k):=g2;have e3:w2.drew.cell? ⟨wr.heap.size,3,none⟩=some (.int .i64 x.key):=g3
    go_wp2_with fail
    go_region_held3 (fun w'=>Upd G1 w2 w'∧w'.cell? ⟨wr.heap.size,1,none⟩=some (.int .i64 x.t)∧w'.cell? ⟨wr.heap.size,2,none⟩=some (.int .i64 x.k)∧w'.cell? ⟨wr.heap.size,3,none⟩=some (.int .i64 x.key))
     (first
      |(with_reducible exact⟨e0,e1,e2,e3⟩)
      |(with_reducible exact⟨hU,k1,k2,k3⟩))
     (first
      |(go_at_call 48;refine(Zjv _ x.k).mono ?_;rintro e w3 ⟨rfl,hu2⟩;have hV:Upd No w2 w3:=Upd.trans (by first|exact hV|exact e00) hu2;have hU:Upd G1 w2 w3:=hV.mono (fun _ _ h=>h.elim);have k1:w3.cell? ⟨wr.heap.size,1,none⟩=some (.int .i64 x.t):=hu2.keepNo (by first|exact k1|exact e1);have k2:w3.cell? ⟨wr.heap.size,2,none⟩=some (.int .i64 x.k):=hu2.keepNo (by first|exact k2|exact e2);have k3:w3.cell? ⟨wr.heap.size,3,none⟩=some (.int .i64 x.key):=hu2.keepNo (by first|exact k3|exact e3))
      |(go_at_call 35;refine(Zav _ _ ?_ ?_).mono ?_;(first|exact hk.out.2.2.1|exact hk.out.2.1.1);(first|exact hk.out.2.2.2|exact hk.out.2.1.2);rintro e w3 ⟨rfl,hu2⟩;have hV:Upd No w2 w3:=Upd.trans (by first|exact hV|exact e00) hu2;have hU:Upd G1 w2 w3:=hV.mono (fun _ _ h=>h.elim);have k1:w3.cell? ⟨wr.heap.size,1,none⟩=some (.int .i64 x.t):=hu2.keepNo (by first|exact k1|exact e1);have k2:w3.cell? ⟨wr.heap.size,2,none⟩=some (.int .i64 x.k):=hu2.keepNo (by first|exact k2|exact e2);have k3:w3.cell? ⟨wr.heap.size,3,none⟩=some (.int .i64 x.key):=hu2.keepNo (by first|exact k3|exact e3))
      |(go_at_call 37;refine(Zet _ G1 w.heap.size (ZaP x.f) _ (hB1.upd hV (fun _ _=>id)) ?_).mono ?_;(simp only[ByteArray.size_append,n3];omega);rintro e w3 ⟨rfl,G',hB',hu2,hG'⟩;have hU:Upd G1 w2 w3:=Upd.trans (hV.mono (fun _ _ h=>h.elim)) hu2;have k1:w3.cell? ⟨wr.heap.size,1,none⟩=some (.int .i64 x.t):=hu2.keep (by first|exact k1|exact e1) HN1;have k2:w3.cell? ⟨wr.heap.size,2,none⟩=some (.int .i64 x.k):=hu2.keep (by first|exact k2|exact e2) HN1;have k3:w3.cell? ⟨wr.heap.size,3,none⟩=some (.int .i64 x.key):=hu2.keep (by first|exact k3|exact e3) HN1))
    have HS:Hid (ZaP x.f++((⟨#[32]⟩:ByteArray)++Zw x.k++Za x.key++⟨#[32]⟩++Za x.t).data.toList=Zq l (k+1)):=Qh (by
     rw[hm.out,show(⟨#[32]⟩:ByteArray)=⟨[32].toArray⟩ from rfl];unfold Zw Za Zcf;simp only[ZaJ])
    rw[HS.out]at hB';have hsz2:=hU.size;have hsz1:=hua.size;have hB2:=hB'.lt';clear hB';clear q1 q2 q3 q4 e0 e1 e2 e3 k1 k2 k3 n3;go_wp2
    go_roundg (gk-1)
    case measure=>omega
    case rel=>exact⟨k+1,_,by omega,by go_num,hB2,fun j hj=>⟨hj.2.1,hj.1⟩,hua.then_ hU fun j hj=> .inr (HG1'.out j hj)⟩
   ·have hkb:((k:Int)==0)=false:=by rw[beq_eq_false_iff_ne];omega
    have hm:=Qh (show Zq l (k+1)=Zq l k++Zcf x by
     conv=>lhs;unfold Zq
     rw[hX];simp[hk0])
    clear hX hk0;have hl0:=Zgf l k;have n0:=ZbH x.k;have n1:=Zb x.key;have n2:=Zb x.t;have n3:(⟨#[32]⟩:ByteArray).size=1:=rfl;have q1:¬9223372036854775807<1+(Zw x.k).size:=by omega
    have q2:¬9223372036854775807<1+(Zw x.k).size+(Za x.key).size:=by omega
    have q3:¬9223372036854775807<1+(Zw x.k).size+(Za x.key).size+1:=by omega
    have q4:¬9223372036854775807<1+(Zw x.k).size+(Za x.key).size+1+(Za x.t).size:=by omega
    go_wp2_with fail
    obtain⟨wa,hwa⟩:∃wa,wa=(wr.alloc (.cells #[.int .i64 x.f,.int .i64 x.t,.int .i64 x.k,.int .i64 x.key] 89)):=⟨_,rfl⟩;have HN:¬G wr.heap.size:=fun e=>by have:=(HG.out _ e).2;omega
    have hwb:wr.heap.size<wa.heap.size:=by rw[hwa];simp
    have hua:Upd No wr wa:=by rw[hwa];exact(Upd.refl No wr).alloc _
    have e00:Upd No wa wa.drew:=(Upd.refl No wa).drew;have e0:Upd G wa wa.drew:=(Upd.refl G wa).drew;have e1:wa.drew.cell? ⟨wr.heap.size,1,none⟩=some (.int .i64 x.t):=by rw[hwa];exact D.out.2.1
    have e2:wa.drew.cell? ⟨wr.heap.size,2,none⟩=some (.int .i64 x.k):=by rw[hwa];exact D.out.2.2.1
    have e3:wa.drew.cell? ⟨wr.heap.size,3,none⟩=some (.int .i64 x.key):=by rw[hwa];exact D.out.2.2.2
    have hBA:Bld wa G w.heap.size (Zq l k):=by rw[hwa];exact hba
    rw[←hwa];clear hba hwa
    go_region_held3 (fun w'=>Upd G wa w'∧w'.cell? ⟨wr.heap.size,1,none⟩=some (.int .i64 x.t)∧w'.cell? ⟨wr.heap.size,2,none⟩=some (.int .i64 x.k)∧w'.cell? ⟨wr.heap.size,3,none⟩=some (.int .i64 x.key))
     (first
      |(with_reducible exact⟨e0,e1,e2,e3⟩)
      |(with_reducible exact⟨hU,k1,k2,k3⟩))
     (first
      |(go_at_call 48;refine(Zjv _ x.k).mono ?_;rintro e w2 ⟨rfl,hu2⟩;have hV:Upd No wa w2:=Upd.trans (by first|exact hV|exact e00) hu2;have hU:Upd G wa w2:=hV.mono (fun _ _ h=>h.elim);have k1:w2.cell? ⟨wr.heap.size,1,none⟩=some (.int .i64 x.t):=hu2.keepNo (by first|exact k1|exact e1);have k2:w2.cell? ⟨wr.heap.size,2,none⟩=some (.int .i64 x.k):=hu2.keepNo (by first|exact k2|exact e2);have k3:w2.cell? ⟨wr.heap.size,3,none⟩=some (.int .i64 x.key):=hu2.keepNo (by first|exact k3|exact e3))
      |(go_at_call 35;refine(Zav _ _ ?_ ?_).mono ?_;(first|exact hk.out.2.2.1|exact hk.out.2.1.1);(first|exact hk.out.2.2.2|exact hk.out.2.1.2);rintro e w2 ⟨rfl,hu2⟩;have hV:Upd No wa w2:=Upd.trans (by first|exact hV|exact e00) hu2;have hU:Upd G wa w2:=hV.mono (fun _ _ h=>h.elim);have k1:w2.cell? ⟨wr.heap.size,1,none⟩=some (.int .i64 x.t):=hu2.keepNo (by first|exact k1|exact e1);have k2:w2.cell? ⟨wr.heap.size,2,none⟩=some (.int .i64 x.k):=hu2.keepNo (by first|exact k2|exact e2);have k3:w2.cell? ⟨wr.heap.size,3,none⟩=some (.int .i64 x.key):=hu2.keepNo (by first|exact k3|exact e3))
      |(go_at_call 37;refine(Zet _ G w.heap.size (Zq l k) _ (hBA.upd hV (fun _ _=>id)) ?_).mono ?_;(simp only[ByteArray.size_append,n3];omega);rintro e w2 ⟨rfl,G',hB',hu2,hG'⟩;have hU:Upd G wa w2:=Upd.trans (hV.mono (fun _ _ h=>h.elim)) hu2;have k1:w2.cell? ⟨wr.heap.size,1,none⟩=some (.int .i64 x.t):=hu2.keep (by first|exact k1|exact e1) HN;have k2:w2.cell? ⟨wr.heap.size,2,none⟩=some (.int .i64 x.k):=hu2.keep (by first|exact k2|exact e2) HN;have k3:w2.cell? ⟨wr.heap.size,3,none⟩=some (.int .i64 x.key):=hu2.keep (by first|exact k3|exact e3) HN))
    have HS:Hid (Zq l k++((⟨#[32]⟩:ByteArray)++Zw x.k++Za x.key++⟨#[32]⟩++Za x.t).data.toList=Zq l (k+1)):=Qh (by
     rw[hm.out,show(⟨#[32]⟩:ByteArray)=⟨[32].toArray⟩ from rfl];unfold Zw Za Zcf;simp only[ZaJ])
    rw[HS.out]at hB';have hsz2:=hU.size;have hsz1:=hua.size;have hB2:=hB'.lt';clear hB';clear q1 q2 q3 q4 e0 e1 e2 e3 k1 k2 k3 n3;go_wp2
    go_roundg (gk-1)
    case measure=>omega
    case rel=>exact⟨k+1,_,by omega,by go_num,hB2,fun j hj=>⟨hj.2.1,hj.1⟩,(hu.trans hua).then_ hU fun j hj=> .inr (HG.out j hj).1⟩
  ·obtain rfl:k=l.length:=by omega
   go_wp2_with (refine(ZhT _ _ _ _ hb).mono ?_;rintro e w' ⟨rfl,hbl⟩)
   go_ret
   exact⟨rfl,hu.then_ (T:=fun j=>w.heap.size≤j) ⟨hbl.os,hbl.tape,hbl.output,hbl.size,fun j hj hn=>hbl.block j (by omega)⟩ fun j hj=> .inr hj⟩
end
/- A transaction's text:the program's. -/
section
open Go.RowKit
def BSx (wb:World) (b:Nat) (l:List UInt8) (W:World):Prop:=∃G,Bld W G b l∧(∀j,G j→wb.heap.size≤j)∧Upd No wb W
namespace BSx
variable {wb W W':World} {b:Nat} {l:List UInt8}
theorem no (h:BSx wb b l W) (u:Upd No W W'):BSx wb b l W':=by
 obtain⟨G,h1,h2,h3⟩:=h;exact⟨G,h1.upd u (fun _ _=>id),h2,h3.trans u⟩
theorem upd (h:BSx wb b l W):Upd No wb W:=by
 obtain⟨G,h1,h2,h3⟩:=h;exact h3
theorem fresh (wb:World):BSx wb wb.heap.size [] (wb.alloc (.cells #[.pointer none,.slice none 0 0] 70)):=⟨_,Bld.fresh wb,fun j hj=>by omega,(Upd.refl No wb).alloc _⟩
theorem write (h:BSx wb b l W) (s:ByteArray) (hl:l.length+s.size≤140737488355328):Calls Try.prog 37 #[.pointer (some ⟨b,0,none⟩),.string s] W fun e w'=>e= .returned (.tuple #[.int .i64 s.size,.nilIface])∧BSx wb b (l++s.data.toList) w':=by
 obtain⟨G,h1,h2,h3⟩:=h;refine(Zet W G b l s h1 hl).mono ?_;rintro e w2 ⟨rfl,G1,hB1,hu2,hG1⟩;refine⟨rfl,G1,hB1,fun j hj=> ?_,h3.then_ hu2 fun j hj=> .inr (h2 j hj)⟩;rcases hG1 j hj with e|e
 ·exact h2 j e
 ·have:=h3.size;omega
theorem str (h:BSx wb b l W) (hb:wb.heap.size≤b):Calls Try.prog 38 #[.pointer (some ⟨b,0,none⟩)] W fun e w'=>e= .returned (.string ⟨l.toArray⟩)∧Upd No wb w':=by
 obtain⟨G,h1,h2,h3⟩:=h;refine(ZhT _ _ _ _ h1).mono ?_;rintro e w' ⟨rfl,hbl⟩;exact⟨rfl,h3.then_ (T:=fun j=>b≤j) ⟨hbl.os,hbl.tape,hbl.output,hbl.size,fun j hj hn=>hbl.block j (by omega)⟩ fun j hj=> .inr (by omega)⟩
end BSx
theorem ZgU (s:ByteArray):s.data.toList.length=s.size:=by
 rw[Array.length_toList];rfl
theorem ZeL (i:Int) (d:Bool):∀l:List HOp,(ZD i d l).length≤23+71*l.length:=by
 intro l;have h1:=Zb6 i
 have h2:∀l:List HOp,(l.flatMap fun o=>32::(Zl o).data.toList).length≤71*l.length:=by
  intro l
  induction l with
  |nil=>simp
  |cons o l ih=>
   rw[List.flatMap_cons,List.length_append,List.length_cons,List.length_cons];have:=Za1 o;have e:=ZgU (Zl o);omega
 have h3:=h2 l;unfold ZD;rw[List.length_append,List.length_append];simp only[List.length_cons,List.length_nil];omega
set_option maxRecDepth 100000 in
set_option maxHeartbeats 1000000 in
theorem Zmu (F:Nat→Prop) (w:World) (i:Int) (d:Bool) (A:Option Addr) (c:Nat) (l:List HOp) (hi:i64 i) (h:HOps F w A l) (hl:l.length≤100000) (hok:∀o∈l,o.ok):
  Calls Try.prog 33 #[.agg #[.int .i64 i,.bool d,.slice A l.length c]] w fun e w'=>e= .returned (.string ⟨(ZD i d l).toArray⟩)∧Upd No w w':=by
 obtain⟨z,hz⟩:∃z,w.heap.size=z:=⟨_,rfl⟩;obtain⟨wb,hwb⟩:∃wb,w.alloc (.cells #[.int .i64 i,.bool d,.slice A l.length c] 35)=wb:=⟨_,rfl⟩;have ub:Upd No w wb:=by rw[←hwb];exact(Upd.refl No w).alloc _
 have sb:wb.heap.size=z+1:=by rw[←hwb,←hz];simp
 have bb:Blk wb z 35 [.int .i64 i,.bool d,.slice A l.length c]:=by rw[←hwb,←hz];exact Blk.new w _ _
 obtain⟨wc,hwc⟩:∃wc,wb.alloc (.cells #[.pointer none,.slice none 0 0] 70)=wc:=⟨_,rfl⟩;have hb0:BSx wb (z+1) [] wc:=by rw[←hwc,←sb];exact BSx.fresh wb
 have t0:∀W,Upd No wb W→W.cell? ⟨z,0,none⟩=some (.int .i64 i):=fun W u=>(bb.upd u id).cell 0
 have t1:∀W,Upd No wb W→W.cell? ⟨z,1,none⟩=some (.bool d):=fun W u=>(bb.upd u id).cell 1
 have t2:∀W,Upd No wb W→W.cell? ⟨z,2,none⟩=some (.slice A l.length c):=fun W u=>(bb.upd u id).cell 2
 have hbz:Upd No wb wc:=hb0.upd;have HB0:=Qh hb0;have HH:=Qh (fun W (u:Upd No wb W)=>HOps.upd h (ub.trans u) (fun _ _=>id));have UB:=Qh ub;have HI:=Qh hi;have HOK:=Qh hok;have n1:=Zb i;have m1:(⟨#[32,97]⟩:ByteArray).size=2:=rfl;have m2:(⟨#[32,99]⟩:ByteArray).size=2:=rfl;have m3:(⟨#[32]⟩:ByteArray).size=1:=rfl;have SB:=Qh sb;clear bb ub h hi hok hb0
 go_enter Try.func33,Try.ntmps33
 go_wp2_with fail
 refine(Zav _ i HI.out.1 HI.out.2).mono ?_;rintro e w1 ⟨rfl,hu1⟩;have HW:=Qh ((HB0.out.no hu1).write (Za i) (by simp only[List.length_nil];omega));clear hu1
 go_wp2_with fail
 refine(HW.out).mono ?_;rintro e w2 ⟨rfl,hb2⟩;have HB2:=Qh hb2;have hu2:=hb2.upd;clear hb2
 cases d
 ·have HW3:=Qh (HB2.out.write ⟨#[32,97]⟩ (by rw[List.nil_append,ZgU];omega))
  go_wp2_with fail
  refine(HW3.out).mono ?_;rintro e w3 ⟨rfl,hb3⟩;have HB3:=Qh (show BSx wb (z+1) (ZD i false (l.take 0)) w3 by rw[show ZD i false (l.take 0)=[]++(Za i).data.toList++(⟨#[32,97]⟩:ByteArray).data.toList from(by unfold ZD Za;simp)];exact hb3);have hu3:=hb3.upd;clear hb3 hu2;go_wp2;clear hu3
  go_loopg [17] l.length (fun gk j wr=>∃k:Nat,k+gk=l.length∧j= .int .i64 (k:Int)∧Hid (BSx wb (z+1) (ZD i false (l.take k)) wr))
  case atStart=>exact⟨0,by omega,rfl,HB3⟩
  case round=>
   obtain⟨k,hgk,rfl,hst⟩:=hrel
   by_cases hlt:k<l.length
   ·obtain⟨ad,hAd,q0,q1,q2,q3⟩:=(HH.out _ hst.out.upd).at_ hlt;obtain⟨x,hx⟩:∃x,l[k]=x:=⟨_,rfl⟩;rw[hx]at q0 q1 q2 q3;subst hAd;have HS:=Qh (ZcQ i false hlt hx);have hxo:x.ok:=HOK.out x (hx▸List.getElem_mem hlt);have b1:(0:Int)≤(k:Int):=Qn _;have b2:(k:Int)<(l.length:Int):=by omega
    have n2:=Za1 x;have p3:¬9223372036854775807<1+(Zl x).size:=by omega
    obtain⟨zx,hzx⟩:∃zx,wr.heap.size=zx:=⟨_,rfl⟩;obtain⟨wx,hwx⟩:∃wx,wr.alloc (.cells #[.bool x.read,.int .i64 x.key,.int .i64 x.tx,.int .i64 x.nth] 58)=wx:=⟨_,rfl⟩;have ux:Upd No wr wx:=by rw[←hwx];exact(Upd.refl No wr).alloc _
    have bx:Blk wx zx 58 [.bool x.read,.int .i64 x.key,.int .i64 x.tx,.int .i64 x.nth]:=by rw[←hwx,←hzx];exact Blk.new wr _ _
    have x0:=bx.cell 0;have x1:=bx.cell 1;have x2:=bx.cell 2;have x3:=bx.cell 3;simp only[Qz,Qs]at x0 x1 x2 x3;have HT:=Qh (Zhf wx x hxo);unfold HOp.cells at HT;have UX:=Qh ux;have hln:=ZeL i false (l.take k);rw[List.length_take]at hln;have HLN:=Qh (show(ZD i false (l.take k)).length+(⟨#[32]⟩++Zl x:ByteArray).size≤140737488355328 by rw[ByteArray.size_append];omega);have HE:=Qh (show ZD i false (l.take k)++(⟨#[32]⟩++Zl x:ByteArray).data.toList=ZD i false (l.take (k+1)) by rw[HS.out];simp);clear hx hxo ux bx hln
    go_wp2_with fail
    refine(HT.out).mono ?_;rintro e w5 ⟨rfl,hu5⟩;have HW:=Qh ((hst.out.no (UX.out.trans hu5)).write (⟨#[32]⟩++Zl x) HLN.out);rw[HE.out]at HW;clear hu5
    go_wp2_with fail
    refine(HW.out).mono ?_;rintro e w6 ⟨rfl,hb6⟩;have HB6:=Qh hb6;clear hb6;go_wp2
    go_roundg (gk-1)
    case measure=>omega
    case rel=>exact⟨k+1,by omega,by go_num,HB6⟩
   ·obtain rfl:k=l.length:=by omega
    have HST:=Qh (hst.out.str (by omega));rw[List.take_length]at HST
    go_wp2_with fail
    refine(HST.out).mono ?_;rintro e w7 ⟨rfl,hu7⟩;go_wp2
    go_ret
    exact⟨rfl,UB.out.trans hu7⟩
 ·have HW3:=Qh (HB2.out.write ⟨#[32,99]⟩ (by rw[List.nil_append,ZgU];omega))
  go_wp2_with fail
  refine(HW3.out).mono ?_;rintro e w3 ⟨rfl,hb3⟩;have HB3:=Qh (show BSx wb (z+1) (ZD i true (l.take 0)) w3 by rw[show ZD i true (l.take 0)=[]++(Za i).data.toList++(⟨#[32,99]⟩:ByteArray).data.toList from(by unfold ZD Za;simp)];exact hb3);have hu3:=hb3.upd;clear hb3 hu2;go_wp2;clear hu3
  go_loopg [17] l.length (fun gk j wr=>∃k:Nat,k+gk=l.length∧j= .int .i64 (k:Int)∧Hid (BSx wb (z+1) (ZD i true (l.take k)) wr))
  case atStart=>exact⟨0,by omega,rfl,HB3⟩
  case round=>
   obtain⟨k,hgk,rfl,hst⟩:=hrel
   by_cases hlt:k<l.length
   ·obtain⟨ad,hAd,q0,q1,q2,q3⟩:=(HH.out _ hst.out.upd).at_ hlt;obtain⟨x,hx⟩:∃x,l[k]=x:=⟨_,rfl⟩;rw[hx]at q0 q1 q2 q3;subst hAd;have HS:=Qh (ZcQ i true hlt hx);have hxo:x.ok:=HOK.out x (hx▸List.getElem_mem hlt);have b1:(0:Int)≤(k:Int):=Qn _;have b2:(k:Int)<(l.length:Int):=by omega
    have n2:=Za1 x;have p3:¬9223372036854775807<1+(Zl x).size:=by omega
    obtain⟨zx,hzx⟩:∃zx,wr.heap.size=zx:=⟨_,rfl⟩;obtain⟨wx,hwx⟩:∃wx,wr.alloc (.cells #[.bool x.read,.int .i64 x.key,.int .i64 x.tx,.int .i64 x.nth] 58)=wx:=⟨_,rfl⟩;have ux:Upd No wr wx:=by rw[←hwx];exact(Upd.refl No wr).alloc _
    have bx:Blk wx zx 58 [.bool x.read,.int .i64 x.key,.int .i64 x.tx,.int .i64 x.nth]:=by rw[←hwx,←hzx];exact Blk.new wr _ _
    have x0:=bx.cell 0;have x1:=bx.cell 1;have x2:=bx.cell 2;have x3:=bx.cell 3;simp only[Qz,Qs]at x0 x1 x2 x3;have HT:=Qh (Zhf wx x hxo);unfold HOp.cells at HT;have UX:=Qh ux;have hln:=ZeL i true (l.take k);rw[List.length_take]at hln;have HLN:=Qh (show(ZD i true (l.take k)).length+(⟨#[32]⟩++Zl x:ByteArray).size≤140737488355328 by rw[ByteArray.size_append];omega);have HE:=Qh (show ZD i true (l.take k)++(⟨#[32]⟩++Zl x:ByteArray).data.toList=ZD i true (l.take (k+1)) by rw[HS.out];simp);clear hx hxo ux bx hln
    go_wp2_with fail
    refine(HT.out).mono ?_;rintro e w5 ⟨rfl,hu5⟩;have HW:=Qh ((hst.out.no (UX.out.trans hu5)).write (⟨#[32]⟩++Zl x) HLN.out);rw[HE.out]at HW;clear hu5
    go_wp2_with fail
    refine(HW.out).mono ?_;rintro e w6 ⟨rfl,hb6⟩;have HB6:=Qh hb6;clear hb6;go_wp2
    go_roundg (gk-1)
    case measure=>omega
    case rel=>exact⟨k+1,by omega,by go_num,HB6⟩
   ·obtain rfl:k=l.length:=by omega
    have HST:=Qh (hst.out.str (by omega));rw[List.take_length]at HST
    go_wp2_with fail
    refine(HST.out).mono ?_;rintro e w7 ⟨rfl,hu7⟩;go_wp2
    go_ret
    exact⟨rfl,UB.out.trans hu7⟩
end
/- Lines,and ok. -/
section
open Go.RowKit
def Zdb (F:Nat→Prop) (w:World) (A:Option Addr) (xs:List ByteArray):Prop:=
 xs≠[]→∃ad,A=some ad∧F ad.block∧ad.block<w.heap.size∧∀(j:Nat) (v:ByteArray),xs[j]? =some v→w.cell? (ad.add j)=some (.string v)
namespace Zdb
variable {F S:Nat→Prop} {w w':World} {A:Option Addr} {xs:List ByteArray}
theorem at_ (h:Zdb F w A xs) {k:Nat} (hk:k<xs.length):∃ad,A=some ad∧F ad.block∧ad.block<w.heap.size∧w.cell? (ad.add k)=some (.string xs[k]):=by
 obtain⟨ad,e,hf,hl,hc⟩:=h (by intro e;subst e;simp at hk);exact⟨ad,e,hf,hl,hc k _ (Qg hk)⟩
theorem upd (h:Zdb F w A xs) (k:Upd S w w') (hn:∀i,F i→¬S i):Zdb F w' A xs:=fun hne=>by
 obtain⟨ad,e,hf,hl,hc⟩:=h hne;exact⟨ad,e,hf,Nat.lt_of_lt_of_le hl k.size,fun j v hj=>(k.cell (by rw[Ints.block_add];exact hl) (by rw[Ints.block_add];exact hn _ hf)).trans (hc j v hj)⟩
end Zdb
def Z2 (l:List ByteArray):List UInt8:=l.flatMap fun s=>s.data.toList++[10]
theorem ZeD {l:List ByteArray} {k:Nat} {x:ByteArray} (hk:k<l.length) (hx:l[k]=x):Z2 (l.take (k+1))=Z2 (l.take k)++(x++⟨#[10]⟩:ByteArray).data.toList:=by
 subst hx;unfold Z2;rw[List.take_succ_eq_append_getElem hk,List.flatMap_append];simp
theorem Zfz {l:List ByteArray} {M:Nat} (hs:∀s∈l,s.size≤M):(Z2 l).length≤(M+1)*l.length:=by
 induction l with
 |nil=>simp[Z2]
 |cons s l ih=>
  have h1:=hs s (List.mem_cons_self ..);have h2:=ih fun x hx=>hs x (List.mem_cons_of_mem _ hx)
  have e:=ZgU s;unfold Z2 at*;rw[List.flatMap_cons,List.length_append,List.length_append,show(s::l).length=l.length+1 from rfl,Nat.mul_add];simp only[List.length_cons,List.length_nil];omega
def Zd6 (l:List ByteArray):ByteArray:=⟨(Z2 l).toArray⟩++Zbe 0
set_option maxRecDepth 100000 in
set_option maxHeartbeats 1000000 in
theorem Zhh (F:Nat→Prop) (w:World) (A:Option Addr) (c:Nat) (l:List ByteArray) (h:Zdb F w A l) (hl:l.length≤1000) (hs:∀s∈l,s.size≤1000):
  Calls Try.prog 18 #[.slice A l.length c] w fun e w'=>e= .returned (.string (Zd6 l))∧Upd No w w':=by
 obtain⟨z,hz⟩:∃z,w.heap.size=z:=⟨_,rfl⟩;obtain⟨wb,hwb⟩:∃wb,w.alloc (.cells #[.pointer none,.slice none 0 0] 70)=wb:=⟨_,rfl⟩;have hb0:BSx w z [] wb:=by rw[←hwb,←hz];exact BSx.fresh w
 have HB0:=Qh (show BSx w z (Z2 (l.take 0)) wb from hb0);have HH:=Qh (fun W (u:Upd No w W)=>h.upd u (fun _ _=>id));have HS:=Qh hs;have HZ:=Qh hz;clear h hs hb0
 go_enter Try.func18,Try.ntmps18
 go_wp2
 go_loopg [8] l.length (fun gk j wr=>∃k:Nat,k+gk=l.length∧j= .int .i64 (k:Int)∧Hid (BSx w z (Z2 (l.take k)) wr))
 case atStart=>exact⟨0,by omega,rfl,HB0⟩
 case round=>
  obtain⟨k,hgk,rfl,hst⟩:=hrel
  by_cases hlt:k<l.length
  ·obtain⟨ad,hAd,_,_,q0⟩:=(HH.out _ hst.out.upd).at_ hlt;obtain⟨x,hx⟩:∃x,l[k]=x:=⟨_,rfl⟩;rw[hx]at q0;subst hAd;have b1:(0:Int)≤(k:Int):=Qn _;have b2:(k:Int)<(l.length:Int):=by omega
   have n2:x.size≤1000:=HS.out x (hx▸List.getElem_mem hlt);have m1:(⟨#[10]⟩:ByteArray).size=1:=rfl;have p3:¬9223372036854775807<x.size+1:=by omega
   have HE:=Qh (ZeD hlt hx);have hln:=Zfz (l:=l.take k) (M:=1000) fun s hs=>HS.out s (List.mem_of_mem_take hs)
   rw[List.length_take]at hln;have hln2:(Z2 (l.take k)).length+(x++⟨#[10]⟩:ByteArray).size≤140737488355328:=by rw[ByteArray.size_append];omega
   have HW:=Qh (hst.out.write (x++⟨#[10]⟩) hln2);rw[←HE.out]at HW;clear hx hln hln2
   go_wp2_with fail
   refine(HW.out).mono ?_;rintro e w6 ⟨rfl,hb6⟩;have HB6:=Qh hb6;clear hb6;go_wp2
   go_roundg (gk-1)
   case measure=>omega
   case rel=>exact⟨k+1,by omega,by go_num,HB6⟩
  ·obtain rfl:k=l.length:=by omega
   have HST:=Qh (hst.out.str (by have:=HZ.out;omega));rw[List.take_length]at HST;have hln:=Zfz HS.out;have HSZ:(⟨(Z2 l).toArray⟩:ByteArray).size=(Z2 l).length:=by show Array.size _=_;rw[List.size_toArray]
   have m3:(Zbe 0).size=3:=rfl;have p4:¬9223372036854775807<(⟨(Z2 l).toArray⟩:ByteArray).size+(Zbe 0).size:=by omega
   have HD:=Qh (fun W=>ZiF W 0);clear HSZ hln m3
   go_wp2_with fail
   refine(HST.out).mono ?_;rintro e w7 ⟨rfl,hu7⟩
   go_wp2_with fail
   refine(HD.out _).mono ?_;rintro e w8 ⟨rfl,hu8⟩;go_wp2
   go_ret
   exact⟨rfl,hu7.trans hu8⟩
set_option maxRecDepth 100000 in
set_option maxHeartbeats 1000000 in
theorem Zmq (F:Nat→Prop) (w:World) (A:Option Addr) (c:Nat) (l:List ByteArray) (h:Zdb F w A l) (hl:l.length≤1000) (hs:∀s∈l,s.size≤1000):
  Calls Try.prog 19 #[.slice A l.length c] w fun e w'=>e= .returned (.string (Zd6 l))∧Upd No w w':=by
 have HH:=Qh (fun W (u:Upd No w W)=>h.upd u (fun _ _=>id));have HS:=Qh hs;clear h hs
 go_enter Try.func19,Try.ntmps19
 go_wp2
 go_loopg [3,8] l.length (fun gk s j wr=>∃(k:Nat) (sb:ByteArray),k+gk=l.length∧j= .int .i64 (k:Int)∧s= .string sb∧Hid (sb=⟨(Z2 (l.take k)).toArray⟩)∧sb.size≤1001*k∧Upd No w wr)
 case atStart=>exact⟨0,_,by omega,rfl,rfl,Qh rfl,by exact Nat.zero_le _,Upd.refl _ _⟩
 case round=>
  obtain⟨k,sb,hgk,rfl,rfl,hsb,hsz,hu⟩:=hrel
  by_cases hlt:k<l.length
  ·obtain⟨ad,hAd,_,_,q0⟩:=(HH.out _ hu).at_ hlt;obtain⟨x,hx⟩:∃x,l[k]=x:=⟨_,rfl⟩;rw[hx]at q0;subst hAd;have b1:(0:Int)≤(k:Int):=Qn _;have b2:(k:Int)<(l.length:Int):=by omega
   have n2:x.size≤1000:=HS.out x (hx▸List.getElem_mem hlt);have m1:(⟨#[10]⟩:ByteArray).size=1:=rfl;have p3:¬9223372036854775807<x.size+1:=by omega
   have p4:¬9223372036854775807<sb.size+(x.size+1):=by omega
   have HE:=Qh (ZeD hlt hx);have hsz2:(sb++(x++⟨#[10]⟩):ByteArray).size≤1001*(k+1):=by rw[ByteArray.size_append,ByteArray.size_append];omega
   have HZ:=Qh hsz2;have HQ:=Qh (show sb++(x++⟨#[10]⟩)=⟨(Z2 (l.take (k+1))).toArray⟩ by rw[hsb.out,HE.out];apply ByteArray.ext;simp);clear hx hsz2 hsb;go_wp2
   go_roundg (gk-1)
   case measure=>omega
   case rel=>exact⟨k+1,_,by omega,by go_num,rfl,HQ,HZ.out,hu⟩
  ·obtain rfl:k=l.length:=by omega
   have m3:(⟨#[111,107,10]⟩:ByteArray).size=3:=rfl;have p4:¬9223372036854775807<sb.size+3:=by omega
   have HSB:=Qh (show sb=⟨(Z2 l).toArray⟩ by rw[hsb.out,List.take_length]);clear hsb;go_wp2
   go_ret
   exact⟨by rw[HSB.out];rfl,hu⟩
end
end Go.Proofs.Ytdbjokfejmgepaa
