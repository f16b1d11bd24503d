/- strings.Join, laid by hand: the table of numbers typed out; lex.Join. -/
import Derived.Shelf.Strings.OnBuilder
import Derived.Test.YtbefgiboikfojaaGreatRcae
namespace Go.Proofs.YtbefgiboikfojaaGreat
open Go.RowKit
set_option linter.unusedVariables false
set_option linter.unusedSimpArgs false
set_option maxRecDepth 100000
set_option maxHeartbeats 2000000
section
open Go.Shelf Go.RowKit
def Zus:Ren:=⟨fun|156=>40|165=>63|166=>37|169=>38|240=>62|241=>102|276=>101|277=>133|n=>n,fun|0=>0|3=>3|4=>4|5=>5|9=>9|20=>20|31=>56|37=>77|70=>76|72=>79|75=>81|76=>82|80=>84|127=>112|164=>163|n=>n,fun|n=>n⟩
theorem ZrB:Go.Proofs.Lays.n156 Tryz.prog Zus:={
 mixed:=by kernel_rfl
 f156:=Tryz.func40.trans (congrArg some (by kernel_rfl))
 f165:=Tryz.func63.trans (congrArg some (by kernel_rfl))
 f166:=Tryz.func37.trans (congrArg some (by kernel_rfl))
 f169:=Tryz.func38.trans (congrArg some (by kernel_rfl))
 f240:=Tryz.func62.trans (congrArg some (by kernel_rfl))
 f241:=Tryz.func102.trans (congrArg some (by kernel_rfl))
 f276:=Tryz.func101.trans (congrArg some (by kernel_rfl))
 f277:=Tryz.func133.trans (congrArg some (by kernel_rfl))
 t0:=Tryz.underlying0
 a0:=Tryz.isAgg0
 z0:=Tryz.sizeOf0
 v0:=Tryz.zeroValue0
 t3:=Tryz.underlying3
 a3:=Tryz.isAgg3
 z3:=Tryz.sizeOf3
 v3:=Tryz.zeroValue3
 t4:=Tryz.underlying4
 a4:=Tryz.isAgg4
 z4:=Tryz.sizeOf4
 v4:=Tryz.zeroValue4
 t9:=Tryz.underlying9
 a9:=Tryz.isAgg9
 z9:=Tryz.sizeOf9
 v9:=Tryz.zeroValue9
 t20:=Tryz.underlying20
 a20:=Tryz.isAgg20
 z20:=Tryz.sizeOf20
 v20:=Tryz.zeroValue20
 t31:=Tryz.underlying56
 a31:=Tryz.isAgg56
 z31:=Tryz.sizeOf56
 v31:=Tryz.zeroValue56
 t37:=Tryz.underlying77
 a37:=Tryz.isAgg77
 z37:=Tryz.sizeOf77
 v37:=Tryz.zeroValue77
 t70:=Tryz.underlying76
 a70:=Tryz.isAgg76
 z70:=Tryz.sizeOf76
 v70:=Tryz.zeroValue76
 t72:=Tryz.underlying79
 a72:=Tryz.isAgg79
 z72:=Tryz.sizeOf79
 v72:=Tryz.zeroValue79
 t75:=Tryz.underlying81
 a75:=Tryz.isAgg81
 z75:=Tryz.sizeOf81
 v75:=Tryz.zeroValue81
 t76:=Tryz.underlying82
 a76:=Tryz.isAgg82
 z76:=Tryz.sizeOf82
 v76:=Tryz.zeroValue82
 t127:=Tryz.underlying112
 a127:=Tryz.isAgg112
 z127:=Tryz.sizeOf112
 v127:=Tryz.zeroValue112
 t164:=Tryz.underlying163
 a164:=Tryz.isAgg163
 z164:=Tryz.sizeOf163
 v164:=Tryz.zeroValue163}
theorem Zut:Builder.Extra Tryz.prog Zus:={
 sizeBuilder:=by kernel_rfl
 liesBuilder:=by kernel_rfl
 t5:=Tryz.underlying5
 a5:=Tryz.isAgg5
 z5:=Tryz.sizeOf5
 v5:=Tryz.zeroValue5
 infoByte:=by kernel_rfl
 cellsByte:=by kernel_rfl
 sizeByte:=by kernel_rfl
 neB5:=by decide}
def Zbl(xs:Gi):Gl:=xs.map Value.string
theorem Zu5(bk o c:Nat)(xs:Gi)(sep:Gm)(w:Gy)(mL:∀(j:Nat) x,xs[j]? =some x->w.cell? ⟨bk,o+j,none⟩=some (.string x))(hbk:bk<w.heap.size)(hN:xs.length<=140737488355328)(iE:xs.length<=c)(hlen:(Lib.join (xs.map (·.data.toList)) sep.data.toList).length<=140737488355328):
  Calls Tryz.prog 40 #[.slice (some ⟨bk,o,none⟩) xs.length c,.string sep] w fun e w'=>e= .returned (.string ⟨(Lib.join (xs.map (·.data.toList)) sep.data.toList).toArray⟩)∧Below w.heap.size w w':=Any.strings_Join ZrB Zut bk o c xs sep w mL hbk hN iE hlen
def Zbs(xs:Gi):Gm:=⟨(Lib.join (xs.map (·.data.toList)) [32]).toArray⟩
theorem Zn6(w:Gy){base:Nat}{v:Gz}{n:Nat}(xs:Gi)(h:w.ownsRow base 9 1 v n (Zbl xs))(hne:xs≠[])(hN:xs.length<=1000000)(hlen:(Lib.join (xs.map (·.data.toList)) [32]).length<=140737488355328):
  CN 20 #[v] w (.string (Zbs xs)):=by
 have hn:n=xs.length:=by have:=h.1;unfold Zbl at this;simp at this;omega
 subst hn
 obtain⟨g,c,rfl,hg,hlt,hc⟩:∃g c,v= .slice (some ⟨g,0,none⟩) xs.length c∧(∀j u,(Zbl xs)[j]? =some u->w.cell? ⟨g,j,none⟩=some u)∧g<w.heap.size∧xs.length<=c:=by
  have hx:0<xs.length:=List.length_pos_iff.2 hne;rcases h.2 with ⟨_,h2⟩|⟨g,cap,cur,rfl,h3,h4,h5,h6,h7,h8⟩
  ·omega
  ·exact⟨g,cap,rfl,fun j u hj=>by have e1:(⟨g,0,none⟩:Addr).add j=⟨g,j,none⟩:=(by unfold Addr.add;split<;>simp_all);rw[<-e1];exact h.cells (g:=g) rfl j u hj,(h.lt g rfl).2,by omega⟩
 have CJ:=Qh (Zu5 g 0 c xs ⟨#[32]⟩ w (fun j x hj=>by rw[Nat.zero_add];exact hg j _ (by unfold Zbl;rw[List.getElem?_map,hj];rfl)) hlt (by omega) hc hlen);clear h hg hlt hc;go_enter Tryz.func20,Tryz.ntmps20;go_wp2_with fail;refine Ck CJ.out fun w1 hb1=>?_;go_wp2;go_ret;exact⟨rfl,hb1.os,hb1.tape,hb1.output,hb1.size,fun j hj hn=>hb1.block j hj⟩
end
/- Words with blanks between,plain. -/
theorem Zp3(y:Gk)(r:List (Gk))(x:Gk):Lib.join (y::(r++[x])) [32]=Lib.join (y::r) [32]++32::x:=by
 rw[Lib.join_cons,Lib.join_cons];unfold Lib.joinTail;simp
theorem ZkF(x:Gm):Zbs [x]=x:=by
 unfold Zbs;rw[Gb,List.map_nil,Lib.join_one]
theorem Zf2{xs:Gi}(h:xs≠[])(x:Gm):Zbs (xs++[x])=Zbs xs++(⟨#[32]⟩++x):=by
 cases xs with
 |nil=>exact absurd rfl h
 |cons y r=>
  unfold Zbs;rw[List.cons_append,Gb,F4,Gb,List.map_nil,Zp3,Gb]
  apply ByteArray.ext
  simp
theorem ZgU(xs:Gi):(Lib.join (xs.map (·.data.toList)) [32]).length=(Zbs xs).size:=by
 unfold Zbs
 show _=(Array.size _)
 rw[List.size_toArray]
theorem Zjt(a b c:Gm):a++b++c=a++(b++c):=by apply ByteArray.ext;simp
/- What is said of verdicts,plain. -/
def Zee(b:Bool):Gm:=if b then ⟨#[43]⟩ else ⟨#[45]⟩
def ZiL(f:Int->Bool)(p:Int):Gm:=ZcO p++Zee (f p)
def Zck(l:Int)(f:Int->Bool)(k:Nat):Gi:=Zb2 l::(List.range k).map fun i=>ZiL f ((i+1:Nat):Int)
theorem Zfa(l:Int)(f:Int->Bool)(k:Nat):Zck l f (k+1)=Zck l f k++[ZiL f ((k+1:Nat):Int)]:=by
 unfold Zck;rw[List.range_succ,F4];rfl
theorem ZjX(l:Int)(f:Int->Bool)(k:Nat):Zck l f k≠[]:=by unfold Zck;simp
def Zc5(l:Int)(f:Int->Bool):Nat->ByteArray
 |0=>Zb2 l
 |k+1=>Zc5 l f k++(⟨#[32]⟩++ZcO ((k+1:Nat):Int))++Zee (f ((k+1:Nat):Int))
theorem Zlk(l:Int)(f:Int->Bool):∀k,Zbs (Zck l f k)=Zc5 l f k
 |0=>by unfold Zck Zc5;exact ZkF _
 |k+1=>by
  rw[Zfa,Zf2 (ZjX l f k),Zlk l f k]
  show _=Zc5 l f k++_++_
  unfold ZiL;rw[Zjt,Zjt]
theorem ZmV(l:Int):(Zb2 l).size<=4:=by
 unfold Zb2
 split
 ·exact Nat.le_refl _
 ·split
  ·exact Nat.le_refl _
  ·split
   ·exact Nat.le_refl _
   ·split
    ·exact Nat.le_refl _
    ·exact Nat.zero_le _
theorem ZfX(p:Int):(ZcO p).size<=7:=by
 unfold ZcO
 split
 ·exact(by decide:(2:Nat)<=7)
 ·split
  ·exact(by decide:(3:Nat)<=7)
  ·split
   ·exact(by decide:(3:Nat)<=7)
   ·split
    ·exact(by decide:(3:Nat)<=7)
    ·split
     ·exact Nat.le_refl _
     ·exact Nat.zero_le _
theorem Zo9(b:Bool):(Zee b).size=1:=by cases b<;>rfl
theorem Zj0(l:Int)(f:Int->Bool):∀k,(Zc5 l f k).size<=4+9*k
 |0=>ZmV l
 |k+1=>by
  have h:=Zj0 l f k;have h1:=ZfX ((k+1:Nat):Int);have h2:=Zo9 (f ((k+1:Nat):Int));have m3:(⟨#[32]⟩:Gm).size=1:=rfl;unfold Zc5;rw[Ex,Ex,Ex];omega
def Zdr(l:Int)(f:Int->Bool):Gm:=Zc5 l f 5++⟨#[10]⟩
/- What is said of verdicts:the walks. -/
theorem ZdF:SlT Tryz.prog 56 9 1 16:=SlT.mk_ Tryz.underlying56 (z:= .string ⟨#[]⟩) (by kernel_rfl) rfl (by omega)
theorem Zs3(w:Gy){base:Nat}(hb:base<=w.heap.size)(s:Gm):(w.alloc (.cells #[.string s] 9)).ownsRow base 9 1 (.slice (some ⟨w.heap.size,0,none⟩) 1 1) 1 (Zbl [s]):=
 ⟨rfl,.inr ⟨w.heap.size,1,#[.string s],rfl,hb,heap_alloc_new w _,Nat.le_refl _,by unfold maxLen;omega,rfl,rfl⟩⟩
theorem Zrk(w:Gy)(f:Int->Bool)(l:Int):CN 6 #[.agg #[.bool (f 0),.bool (f 1),.bool (f 2),.bool (f 3),.bool (f 4),.bool (f 5),Qi l]] w (.string (Zdr l f)):=by
 obtain⟨z,hz⟩:=Qe w.heap.size;obtain⟨wb,ah⟩:=Qe (w.alloc (.cells #[.bool (f 0),.bool (f 1),.bool (f 2),.bool (f 3),.bool (f 4),.bool (f 5),Qi l] 24));have u0:Upd No w wb:=by rw[<-ah];exact(Gg No w).alloc _
 have bA:Blk wb z 24 (Zlx f 6++[Qi l]):=by rw[ZfN,<-ah,<-hz];exact Gh w _ _
 have c6:∀W,Upd No wb W->W.cell? ⟨z,6,none⟩=some (Qi l):=fun W u=>by rw[(bA.upd u id).cell,ZfN];rfl
 have HC:=Qh (fun W (u:Upd No wb W) k (hk:k<6)=>show W.cell? ⟨z,k,none⟩=some (.bool (f (k:Int))) from by rw[(bA.upd u id).cell,List.getElem?_append_left (by rw[ZfN];simpa using hk)];exact Zlw f hk);have U0:=Qh u0;have hbz:Upd No wb wb:=Gg _ _;have CW:=Qh (Zvv wb l);clear u0 bA;go_enter Tryz.func6,Tryz.ntmps6;go_wp2_with fail;refine Ck CW.out fun w1 hu1=>?_;obtain⟨y,hy⟩:=Qe w1.heap.size;obtain⟨wc,eR⟩:=Qe (w1.alloc (.cells #[.string (Zb2 l)] 9));have Bd:=Qh (show wc.ownsRow wb.heap.size 9 1 (.slice (some ⟨y,0,none⟩) (Zck l f 0).length 1) (Zck l f 0).length (Zbl (Zck l f 0)) by rw[<-eR,<-hy];exact Zs3 w1 hu1.size _);have AE:=Qh (show Upd No wb wc by rw[<-eR];exact hu1.alloc _);go_wp2;clear ah eR hy hu1
 go_loopg [3,4] 5 (fun gk s i wr=>∃(k:Nat) (A5:OA) (c5:Nat) (xs:Gi),k+gk=5∧i= Qi (((k+1:Nat):Int))∧s= .slice A5 xs.length c5∧Hid (xs=Zck l f k)∧xs.length<=k+1∧Hid (xs≠[])∧
  Hid (wr.ownsRow wb.heap.size 9 1 (.slice A5 xs.length c5) xs.length (Zbl xs))∧Hid (Upd No wb wr))
 case atStart=>exact⟨0,some ⟨y,0,none⟩,1,Zck l f 0,by omega,rfl,rfl,Qh rfl,Nat.le_refl _,Qh (ZjX l f 0),Bd,AE⟩
 case round=>
  obtain⟨k,A5,c5,xs,aK,rfl,rfl,aV,hxl,xh,ae,hu⟩:=hrel
  by_cases hk:k<5
  ·have zH:=HC.out wr hu.out (k+1) (by omega);obtain⟨PK,iU⟩:=Qe (((k+1:Nat):Int):Int);have nP:=Qh iU;have hpn:PK.toNat=k+1:=by omega
   rw[iU]at zH ⊢;have l2:PK<6:=by omega
   have l3:(0:Int)<=PK:=by omega
   have pw:IntKind.i64.wrap (PK+1)=PK+1:=IntWalk.i64_in _ (by omega);have CN:=Qh (Zss wr PK);have n1:=ZfX PK;obtain⟨NM,iC⟩:=Qe (ZcO PK);rw[iC]at CN n1;have m1:(⟨#[45]⟩:Gm).size=1:=rfl;have m2:(⟨#[43]⟩:Gm).size=1:=rfl;have p1:¬9223372036854775807<NM.size+1:=by omega
   obtain⟨fv,kl⟩:=Qe (f PK);rw[kl]at zH;have HP:=Qh (show ZiL f ((k+1:Nat):Int)=NM++Zee fv by unfold ZiL;rw[iU,iC,kl]);have gd:=Qh ae.out;have dJ:=Qh hu.out;clear iU iC kl ae hu
   cases fv
   ·go_wp2_with fail;refine(CN.out).mono ?_;rintro e w3 ⟨rfl,rfl⟩;go_wp2_with (at_builtin;refine ZX rfl rfl ZdF (base:=wb.heap.size) (v:= .slice A5 xs.length c5) (n:=xs.length) (xs:=Zbl xs) (cells:=[.string (NM++(⟨#[45]⟩:Gm))]) (by rfl) (by rfl) gd.out rfl rfl (by omega) (by omega) (by have:=dJ.out.size;omega) ?_;intro g9 c9 w9 aG aI gu d8;have mD:=Qh aG;have cY:=Qh aI;clear aG aI);go_roundg (gk-1);exact⟨k+1,some ⟨g9,0,none⟩,c9,xs++[NM++(⟨#[45]⟩:Gm)],by omega,by have:=nP.out;simp;omega,by simp,Qh (by rw[aV.out,Zfa,HP.out];rfl),by simp;omega,Qh (by simp),Qh (by have:=mD.out;unfold Zbl at*;simpa using this),Qh (dJ.out.then_ cY.out fun i e=> .inr (gd.out.lt i e).1)⟩;omega
   ·go_wp2_with fail;refine(CN.out).mono ?_;rintro e w3 ⟨rfl,rfl⟩;go_wp2_with (at_builtin;refine ZX rfl rfl ZdF (base:=wb.heap.size) (v:= .slice A5 xs.length c5) (n:=xs.length) (xs:=Zbl xs) (cells:=[.string (NM++(⟨#[43]⟩:Gm))]) (by rfl) (by rfl) gd.out rfl rfl (by omega) (by omega) (by have:=dJ.out.size;omega) ?_;intro g9 c9 w9 aG aI gu d8;have mD:=Qh aG;have cY:=Qh aI;clear aG aI);go_roundg (gk-1);exact⟨k+1,some ⟨g9,0,none⟩,c9,xs++[NM++(⟨#[43]⟩:Gm)],by omega,by have:=nP.out;simp;omega,by simp,Qh (by rw[aV.out,Zfa,HP.out];rfl),by simp;omega,Qh (by simp),Qh (by have:=mD.out;unfold Zbl at*;simpa using this),Qh (dJ.out.then_ cY.out fun i e=> .inr (gd.out.lt i e).1)⟩;omega
  ·obtain rfl:k=5:=by omega
   have HX:=Qh aV.out;have ci:=Zj0 l f 5;have HJ:Zbs xs=Zc5 l f 5:=by rw[aV.out];exact Zlk l f 5
   have CJ:=Qh (Zn6 wr xs ae.out xh.out (by omega) (by rw[ZgU,HJ];omega));rw[HJ]at CJ;have m1:(⟨#[10]⟩:Gm).size=1:=rfl;have p1:¬9223372036854775807<(Zc5 l f 5).size+1:=by omega
   have dJ:=Qh hu.out;clear aV ae hu HJ ci;go_wp2_with fail;refine Ck CJ.out fun w5 hu5=>?_;go_wp2;go_ret;exact⟨rfl,U0.out.trans (dJ.out.trans hu5)⟩
