/- strings.Join, laid by hand: the table of numbers typed out; lex.Join. -/
import Derived.Shelf.Strings.OnBuilder
import Derived.Test.YtdbjokfejmgepaaProg
import Derived.Test.YtdbjokfejmgepaaRaac
import Derived.Test.YtdbjokfejmgepaaRaah
namespace Go.Proofs.Ytdbjokfejmgepaa
set_option linter.unusedVariables false
set_option linter.unusedSimpArgs false
section
open Go.Shelf Go.RowKit
def ZmA:Ren:=⟨fun|156=>46|165=>65|166=>37|169=>38|240=>54|241=>89|276=>69|277=>99|n=>n,fun|0=>0|3=>3|4=>4|5=>5|9=>9|20=>20|31=>40|37=>68|70=>67|72=>70|75=>72|76=>73|80=>75|127=>94|164=>111|n=>n,fun|n=>n⟩
theorem Zkz:Go.Proofs.Lays.n156 Try.prog ZmA:={
 mixed:=by kernel_rfl
 f156:=Try.func46.trans (congrArg some (by kernel_rfl))
 f165:=Try.func65.trans (congrArg some (by kernel_rfl))
 f166:=Try.func37.trans (congrArg some (by kernel_rfl))
 f169:=Try.func38.trans (congrArg some (by kernel_rfl))
 f240:=Try.func54.trans (congrArg some (by kernel_rfl))
 f241:=Try.func89.trans (congrArg some (by kernel_rfl))
 f276:=Try.func69.trans (congrArg some (by kernel_rfl))
 f277:=Try.func99.trans (congrArg some (by kernel_rfl))
 t0:=Try.underlying0
 a0:=Try.isAgg0
 z0:=Try.sizeOf0
 v0:=Try.zeroValue0
 t3:=Try.underlying3
 a3:=Try.isAgg3
 z3:=Try.sizeOf3
 v3:=Try.zeroValue3
 t4:=Try.underlying4
 a4:=Try.isAgg4
 z4:=Try.sizeOf4
 v4:=Try.zeroValue4
 t9:=Try.underlying9
 a9:=Try.isAgg9
 z9:=Try.sizeOf9
 v9:=Try.zeroValue9
 t20:=Try.underlying20
 a20:=Try.isAgg20
 z20:=Try.sizeOf20
 v20:=Try.zeroValue20
 t31:=Try.underlying40
 a31:=Try.isAgg40
 z31:=Try.sizeOf40
 v31:=Try.zeroValue40
 t37:=Try.underlying68
 a37:=Try.isAgg68
 z37:=Try.sizeOf68
 v37:=Try.zeroValue68
 t70:=Try.underlying67
 a70:=Try.isAgg67
 z70:=Try.sizeOf67
 v70:=Try.zeroValue67
 t72:=Try.underlying70
 a72:=Try.isAgg70
 z72:=Try.sizeOf70
 v72:=Try.zeroValue70
 t75:=Try.underlying72
 a75:=Try.isAgg72
 z75:=Try.sizeOf72
 v75:=Try.zeroValue72
 t76:=Try.underlying73
 a76:=Try.isAgg73
 z76:=Try.sizeOf73
 v76:=Try.zeroValue73
 t127:=Try.underlying94
 a127:=Try.isAgg94
 z127:=Try.sizeOf94
 v127:=Try.zeroValue94
 t164:=Try.underlying111
 a164:=Try.isAgg111
 z164:=Try.sizeOf111
 v164:=Try.zeroValue111}
theorem ZmB:Builder.Extra Try.prog ZmA:={
 sizeBuilder:=by kernel_rfl
 liesBuilder:=by kernel_rfl
 t5:=Try.underlying5
 a5:=Try.isAgg5
 z5:=Try.sizeOf5
 v5:=Try.zeroValue5
 infoByte:=by kernel_rfl
 cellsByte:=by kernel_rfl
 sizeByte:=by kernel_rfl
 neB5:=by decide}
def Z6 (xs:List ByteArray):List Value:=xs.map Value.string
theorem Zm2 (bk o c:Nat) (xs:List ByteArray) (sep:ByteArray) (w:World) (hcells:∀(j:Nat) x,xs[j]? =some x→w.cell? ⟨bk,o+j,none⟩=some (.string x)) (hbk:bk<w.heap.size) (hN:xs.length≤140737488355328) (hcap:xs.length≤c) (hlen:(Lib.join (xs.map (·.data.toList)) sep.data.toList).length≤140737488355328):
  Calls Try.prog 46 #[.slice (some ⟨bk,o,none⟩) xs.length c,.string sep] w fun e w'=>e= .returned (.string ⟨(Lib.join (xs.map (·.data.toList)) sep.data.toList).toArray⟩)∧Below w.heap.size w w':=Any.strings_Join Zkz ZmB bk o c xs sep w hcells hbk hN hcap hlen
def Zah (xs:List ByteArray):ByteArray:=⟨(Lib.join (xs.map (·.data.toList)) [32]).toArray⟩
set_option maxRecDepth 100000 in
theorem ZiM (w:World) {base:Nat} {v:Value} {n:Nat} (xs:List ByteArray) (h:w.ownsRow base 9 1 v n (Z6 xs)) (hne:xs≠[]) (hN:xs.length≤1000000) (hlen:(Lib.join (xs.map (·.data.toList)) [32]).length≤140737488355328):
  Calls Try.prog 25 #[v] w fun e w'=>e= .returned (.string (Zah xs))∧Upd No w w':=by
 have hn:n=xs.length:=by have:=h.1;unfold Z6 at this;simp at this;omega
 subst hn
 obtain⟨g,c,rfl,hg,hlt,hc⟩:∃g c,v= .slice (some ⟨g,0,none⟩) xs.length c∧(∀j u,(Z6 xs)[j]? =some u→w.cell? ⟨g,j,none⟩=some u)∧g<w.heap.size∧xs.length≤c:=by
  have hx:0<xs.length:=List.length_pos_iff.2 hne;rcases h.2 with ⟨_,h2⟩|⟨g,cap,cur,rfl,h3,h4,h5,h6,h7,h8⟩
  ·omega
  ·exact⟨g,cap,rfl,fun j u hj=>by have e1:(⟨g,0,none⟩:Addr).add j=⟨g,j,none⟩:=(by unfold Addr.add;split<;>simp_all);rw[←e1];exact h.cells (g:=g) rfl j u hj,(h.lt g rfl).2,by omega⟩
 have CJ:=Qh (Zm2 g 0 c xs ⟨#[32]⟩ w (fun j x hj=>by rw[Nat.zero_add];exact hg j _ (by unfold Z6;rw[List.getElem?_map,hj];rfl)) hlt (by omega) hc hlen);clear h hg hlt hc
 go_enter Try.func25,Try.ntmps25
 go_wp2_with fail
 refine(CJ.out).mono ?_;rintro e w1 ⟨rfl,hb1⟩;go_wp2
 go_ret
 exact⟨rfl,hb1.os,hb1.tape,hb1.output,hb1.size,fun j hj hn=>hb1.block j hj⟩
end
/- Words with blanks between,plain. -/
section
open Go.RowKit
theorem ZjI (y:List UInt8) (r:List (List UInt8)) (x:List UInt8):Lib.join (y::(r++[x])) [32]=Lib.join (y::r) [32]++32::x:=by
 rw[Lib.join_cons,Lib.join_cons];unfold Lib.joinTail;simp
theorem ZgD (x:ByteArray):Zah [x]=x:=by
 unfold Zah;rw[List.map_cons,List.map_nil,Lib.join_one]
theorem ZdF {xs:List ByteArray} (h:xs≠[]) (x:ByteArray):Zah (xs++[x])=Zah xs++(⟨#[32]⟩++x):=by
 cases xs with
 |nil=>exact absurd rfl h
 |cons y r=>
  unfold Zah;rw[List.cons_append,List.map_cons,List.map_append,List.map_cons,List.map_nil,ZjI,List.map_cons]
  apply ByteArray.ext
  simp
theorem Zd9 (xs:List ByteArray):(Lib.join (xs.map (·.data.toList)) [32]).length=(Zah xs).size:=by
 unfold Zah
 show _=(Array.size _)
 rw[List.size_toArray]
theorem ZdJ (a b c:ByteArray):a++b++c=a++(b++c):=by apply ByteArray.ext;simp
end
/- What is said of verdicts,plain. -/
section
open Go.RowKit
def ZfW (b:Bool):ByteArray:=if b then ⟨#[43]⟩ else ⟨#[45]⟩
def Zfr (f:Int→Bool) (p:Int):ByteArray:=Zae p++ZfW (f p)
def ZaH (l:Int) (f:Int→Bool) (k:Nat):List ByteArray:=Zaa l::(List.range k).map fun i=>Zfr f ((i+1:Nat):Int)
theorem ZcZ (l:Int) (f:Int→Bool) (k:Nat):ZaH l f (k+1)=ZaH l f k++[Zfr f ((k+1:Nat):Int)]:=by
 unfold ZaH;rw[List.range_succ,List.map_append];rfl
theorem Zga (l:Int) (f:Int→Bool) (k:Nat):ZaH l f k≠[]:=by unfold ZaH;simp
def Zcq (l:Int) (f:Int→Bool):Nat→ByteArray
 |0=>Zaa l
 |k+1=>Zcq l f k++(⟨#[32]⟩++Zae ((k+1:Nat):Int))++ZfW (f ((k+1:Nat):Int))
theorem Zg0 (l:Int) (f:Int→Bool):∀k,Zah (ZaH l f k)=Zcq l f k
 |0=>by unfold ZaH Zcq;exact ZgD _
 |k+1=>by
  rw[ZcZ,ZdF (Zga l f k),Zg0 l f k]
  show _=Zcq l f k++_++_
  unfold Zfr;rw[ZdJ,ZdJ]
theorem ZeC (l:Int):(Zaa l).size≤4:=by
 unfold Zaa
 split
 ·exact Nat.le_refl _
 ·split
  ·exact Nat.le_refl _
  ·split
   ·exact Nat.le_refl _
   ·split
    ·exact Nat.le_refl _
    ·exact Nat.zero_le _
theorem ZbR (p:Int):(Zae p).size≤7:=by
 unfold Zae
 split
 ·exact(by decide:(2:Nat)≤7)
 ·split
  ·exact(by decide:(3:Nat)≤7)
  ·split
   ·exact(by decide:(3:Nat)≤7)
   ·split
    ·exact(by decide:(3:Nat)≤7)
    ·split
     ·exact Nat.le_refl _
     ·exact Nat.zero_le _
theorem Zgj (b:Bool):(ZfW b).size=1:=by cases b<;>rfl
theorem Zgc (l:Int) (f:Int→Bool):∀k,(Zcq l f k).size≤4+9*k
 |0=>ZeC l
 |k+1=>by
  have h:=Zgc l f k;have h1:=ZbR ((k+1:Nat):Int);have h2:=Zgj (f ((k+1:Nat):Int));have m3:(⟨#[32]⟩:ByteArray).size=1:=rfl;unfold Zcq;rw[ByteArray.size_append,ByteArray.size_append,ByteArray.size_append];omega
def ZfV (l:Int) (f:Int→Bool):ByteArray:=Zcq l f 5++⟨#[10]⟩
end
/- What is said of verdicts:the walks. -/
section
open Go.RowKit
theorem ZbY:SlT Try.prog 40 9 1 16:=SlT.mk_ Try.underlying40 (z:= .string ⟨#[]⟩) (by kernel_rfl) rfl (by omega)
theorem Zlw (w:World) {base:Nat} (hb:base≤w.heap.size) (s:ByteArray):(w.alloc (.cells #[.string s] 9)).ownsRow base 9 1 (.slice (some ⟨w.heap.size,0,none⟩) 1 1) 1 (Z6 [s]):=
 ⟨rfl,.inr ⟨w.heap.size,1,#[.string s],rfl,hb,heap_alloc_new w _,Nat.le_refl _,by unfold maxLen;omega,rfl,rfl⟩⟩
set_option maxRecDepth 100000 in
set_option maxHeartbeats 2000000 in
theorem Zmw (w:World) (f:Int→Bool) (l:Int):Calls Try.prog 10 #[.agg #[.bool (f 0),.bool (f 1),.bool (f 2),.bool (f 3),.bool (f 4),.bool (f 5),.int .i64 l]] w fun e w'=>e= .returned (.string (ZfV l f))∧Upd No w w':=by
 obtain⟨z,hz⟩:∃z,w.heap.size=z:=⟨_,rfl⟩;obtain⟨wb,hwb⟩:∃wb,w.alloc (.cells #[.bool (f 0),.bool (f 1),.bool (f 2),.bool (f 3),.bool (f 4),.bool (f 5),.int .i64 l] 25)=wb:=⟨_,rfl⟩;have u0:Upd No w wb:=by rw[←hwb];exact(Upd.refl No w).alloc _
 have bA:Blk wb z 25 (ZfY f 6++[.int .i64 l]):=by rw[Zbs,←hwb,←hz];exact Blk.new w _ _
 have c6:∀W,Upd No wb W→W.cell? ⟨z,6,none⟩=some (.int .i64 l):=fun W u=>by rw[(bA.upd u id).cell,Zbs];rfl
 have HC:=Qh (fun W (u:Upd No wb W) k (hk:k<6)=>show W.cell? ⟨z,k,none⟩=some (.bool (f (k:Int))) from by rw[(bA.upd u id).cell,List.getElem?_append_left (by rw[Zbs];simpa using hk)];exact ZeM f hk);have U0:=Qh u0;have hbz:Upd No wb wb:=Upd.refl _ _;have CW:=Qh (Znv wb l);clear u0 bA
 go_enter Try.func10,Try.ntmps10
 go_wp2_with fail
 refine(CW.out).mono ?_;rintro e w1 ⟨rfl,hu1⟩;obtain⟨y,hy⟩:∃y,w1.heap.size=y:=⟨_,rfl⟩;obtain⟨wc,hwc⟩:∃wc,w1.alloc (.cells #[.string (Zaa l)] 9)=wc:=⟨_,rfl⟩;have HO0:=Qh (show wc.ownsRow wb.heap.size 9 1 (.slice (some ⟨y,0,none⟩) (ZaH l f 0).length 1) (ZaH l f 0).length (Z6 (ZaH l f 0)) by rw[←hwc,←hy];exact Zlw w1 hu1.size _);have HU0:=Qh (show Upd No wb wc by rw[←hwc];exact hu1.alloc _);go_wp2;clear hwb hwc hy hu1
 go_loopg [3,4] 5 (fun gk s i wr=>∃(k:Nat) (A5:Option Addr) (c5:Nat) (xs:List ByteArray),k+gk=5∧i= .int .i64 (((k+1:Nat):Int))∧s= .slice A5 xs.length c5∧Hid (xs=ZaH l f k)∧xs.length≤k+1∧Hid (xs≠[])∧
  Hid (wr.ownsRow wb.heap.size 9 1 (.slice A5 xs.length c5) xs.length (Z6 xs))∧Hid (Upd No wb wr))
 case atStart=>exact⟨0,some ⟨y,0,none⟩,1,ZaH l f 0,by omega,rfl,rfl,Qh rfl,Nat.le_refl _,Qh (Zga l f 0),HO0,HU0⟩
 case round=>
  obtain⟨k,A5,c5,xs,hgk,rfl,rfl,hxs,hxl,hxn,hown,hu⟩:=hrel
  by_cases hk:k<5
  ·have HCK:=HC.out wr hu.out (k+1) (by omega);obtain⟨PK,hPK⟩:∃PK:Int,((k+1:Nat):Int)=PK:=⟨_,rfl⟩;have HPK:=Qh hPK;have hpn:PK.toNat=k+1:=by omega
   rw[hPK]at HCK ⊢;have l2:PK<6:=by omega
   have l3:(0:Int)≤PK:=by omega
   have pw:IntKind.i64.wrap (PK+1)=PK+1:=IntWalk.i64_in _ (by omega);have CN:=Qh (Zk6 wr PK);have n1:=ZbR PK;obtain⟨NM,hNM⟩:∃NM,Zae PK=NM:=⟨_,rfl⟩;rw[hNM]at CN n1;have m1:(⟨#[45]⟩:ByteArray).size=1:=rfl;have m2:(⟨#[43]⟩:ByteArray).size=1:=rfl;have p1:¬9223372036854775807<NM.size+1:=by omega
   obtain⟨fv,hfv⟩:∃fv,f PK=fv:=⟨_,rfl⟩;rw[hfv]at HCK;have HP:=Qh (show Zfr f ((k+1:Nat):Int)=NM++ZfW fv by unfold Zfr;rw[hPK,hNM,hfv]);have HOW:=Qh hown.out;have HUU:=Qh hu.out;clear hPK hNM hfv hown hu
   cases fv
   ·go_wp2_with fail
    refine(CN.out).mono ?_;rintro e w3 ⟨rfl,rfl⟩
    go_wp2_with (at_builtin;refine ZS rfl rfl ZbY (base:=wb.heap.size) (v:= .slice A5 xs.length c5) (n:=xs.length) (xs:=Z6 xs) (cells:=[.string (NM++(⟨#[45]⟩:ByteArray))]) (by rfl) (by rfl) HOW.out rfl rfl (by omega) (by omega) (by have:=HUU.out.size;omega) ?_;intro g9 c9 w9 hown9 hu9 hg9 hlt9;have HOW9:=Qh hown9;have HU9:=Qh hu9;clear hown9 hu9)
    go_roundg (gk-1)
    case measure=>omega
    case rel=>exact⟨k+1,some ⟨g9,0,none⟩,c9,xs++[NM++(⟨#[45]⟩:ByteArray)],by omega,by have:=HPK.out;simp;omega,by simp,Qh (by rw[hxs.out,ZcZ,HP.out];rfl),by simp;omega,Qh (by simp),Qh (by have:=HOW9.out;unfold Z6 at*;simpa using this),Qh (HUU.out.then_ HU9.out fun i e=> .inr (HOW.out.lt i e).1)⟩
   ·go_wp2_with fail
    refine(CN.out).mono ?_;rintro e w3 ⟨rfl,rfl⟩
    go_wp2_with (at_builtin;refine ZS rfl rfl ZbY (base:=wb.heap.size) (v:= .slice A5 xs.length c5) (n:=xs.length) (xs:=Z6 xs) (cells:=[.string (NM++(⟨#[43]⟩:ByteArray))]) (by rfl) (by rfl) HOW.out rfl rfl (by omega) (by omega) (by have:=HUU.out.size;omega) ?_;intro g9 c9 w9 hown9 hu9 hg9 hlt9;have HOW9:=Qh hown9;have HU9:=Qh hu9;clear hown9 hu9)
    go_roundg (gk-1)
    case measure=>omega
    case rel=>exact⟨k+1,some ⟨g9,0,none⟩,c9,xs++[NM++(⟨#[43]⟩:ByteArray)],by omega,by have:=HPK.out;simp;omega,by simp,Qh (by rw[hxs.out,ZcZ,HP.out];rfl),by simp;omega,Qh (by simp),Qh (by have:=HOW9.out;unfold Z6 at*;simpa using this),Qh (HUU.out.then_ HU9.out fun i e=> .inr (HOW.out.lt i e).1)⟩
  ·obtain rfl:k=5:=by omega
   have HX:=Qh hxs.out;have hsz:=Zgc l f 5;have HJ:Zah xs=Zcq l f 5:=by rw[hxs.out];exact Zg0 l f 5
   have CJ:=Qh (ZiM wr xs hown.out hxn.out (by omega) (by rw[Zd9,HJ];omega));rw[HJ]at CJ;have m1:(⟨#[10]⟩:ByteArray).size=1:=rfl;have p1:¬9223372036854775807<(Zcq l f 5).size+1:=by omega
   have HUU:=Qh hu.out;clear hxs hown hu HJ hsz
   go_wp2_with fail
   refine(CJ.out).mono ?_;rintro e w5 ⟨rfl,hu5⟩;go_wp2
   go_ret
   exact⟨rfl,U0.out.trans (HUU.out.trans hu5)⟩
set_option maxRecDepth 100000 in
set_option maxHeartbeats 2000000 in
theorem ZnT (w:World) (f:Int→Bool) (l:Int):Calls Try.prog 11 #[.agg #[.bool (f 0),.bool (f 1),.bool (f 2),.bool (f 3),.bool (f 4),.bool (f 5),.int .i64 l]] w fun e w'=>e= .returned (.string (ZfV l f))∧Upd No w w':=by
 obtain⟨z,hz⟩:∃z,w.heap.size=z:=⟨_,rfl⟩;obtain⟨wb,hwb⟩:∃wb,w.alloc (.cells #[.bool (f 0),.bool (f 1),.bool (f 2),.bool (f 3),.bool (f 4),.bool (f 5),.int .i64 l] 25)=wb:=⟨_,rfl⟩;have u0:Upd No w wb:=by rw[←hwb];exact(Upd.refl No w).alloc _
 have bA:Blk wb z 25 (ZfY f 6++[.int .i64 l]):=by rw[Zbs,←hwb,←hz];exact Blk.new w _ _
 have c6:∀W,Upd No wb W→W.cell? ⟨z,6,none⟩=some (.int .i64 l):=fun W u=>by rw[(bA.upd u id).cell,Zbs];rfl
 have HC:=Qh (fun W (u:Upd No wb W) k (hk:k<6)=>show W.cell? ⟨z,k,none⟩=some (.bool (f (k:Int))) from by rw[(bA.upd u id).cell,List.getElem?_append_left (by rw[Zbs];simpa using hk)];exact ZeM f hk);have U0:=Qh u0;have hbz:Upd No wb wb:=Upd.refl _ _;have CW:=Qh (Zlq wb l);clear u0 bA
 go_enter Try.func11,Try.ntmps11
 go_wp2_with fail
 refine(CW.out).mono ?_;rintro e w1 ⟨rfl,hu1⟩;have HU0:=Qh hu1;go_wp2;clear hwb hu1
 go_loopg [3,4] 5 (fun gk s i wr=>∃(k:Nat) (sb:ByteArray),k+gk=5∧i= .int .i64 (((k+1:Nat):Int))∧s= .string sb∧Hid (sb=Zcq l f k)∧sb.size≤4+9*k∧Hid (Upd No wb wr))
 case atStart=>exact⟨0,_,by omega,rfl,rfl,Qh rfl,ZeC l,HU0⟩
 case round=>
  obtain⟨k,sb,hgk,rfl,rfl,hsb,hsz,hu⟩:=hrel
  by_cases hk:k<5
  ·obtain⟨PK,hPK⟩:∃PK:Int,((k+1:Nat):Int)=PK:=⟨_,rfl⟩;have HPK:=Qh hPK;have hpn:PK.toNat=k+1:=by omega
   have l1:PK≤5:=by omega
   have l2:PK<6:=by omega
   have l3:(0:Int)≤PK:=by omega
   have pw:IntKind.i64.wrap (PK+1)=PK+1:=IntWalk.i64_in _ (by omega);have CN:=Qh (Zil wr PK);have n1:=ZbR PK;obtain⟨NM,hNM⟩:∃NM,Zae PK=NM:=⟨_,rfl⟩;rw[hNM]at CN n1;have m1:(⟨#[45]⟩:ByteArray).size=1:=rfl;have m2:(⟨#[43]⟩:ByteArray).size=1:=rfl;have m3:(⟨#[32]⟩:ByteArray).size=1:=rfl;have p1:¬9223372036854775807<1+NM.size:=by omega
   have p2:¬9223372036854775807<sb.size+(1+NM.size):=by omega
   have p3:¬9223372036854775807<sb.size+(1+NM.size)+1:=by omega
   obtain⟨fv,hfv⟩:∃fv,f PK=fv:=⟨_,rfl⟩;have HP:=Qh (show Zcq l f (k+1)=sb++(⟨#[32]⟩++NM)++ZfW fv by show Zcq l f k++_++_=_;rw[hPK,hNM,hfv,hsb.out]);have HZ:=Qh (show(sb++(⟨#[32]⟩++NM)++ZfW fv:ByteArray).size≤4+9*(k+1) by have:=Zgj fv;rw[ByteArray.size_append,ByteArray.size_append,ByteArray.size_append];omega);have HCF:=Qh (fun W (u:Upd No wb W)=>show W.cell? ⟨z,k+1,none⟩=some (.bool fv) by have:=HC.out W u (k+1) (by omega);rw[hPK,hfv]at this;exact this);have HUU:=Qh hu.out;rw[hPK];clear hPK hNM hfv hu hsb c6 hbz
   go_wp2_with fail
   refine(CN.out).mono ?_;rintro e w3 ⟨rfl,hu3⟩;have HU3:=Qh (HUU.out.trans hu3);have k1:=HCF.out _ HU3.out;clear hu3
   cases fv
   ·go_wp2
    go_roundg (gk-1)
    case measure=>omega
    case rel=>exact⟨k+1,_,by omega,by have:=HPK.out;simp;omega,rfl,Qh (by rw[HP.out];rfl),HZ.out,HU3⟩
   ·go_wp2
    go_roundg (gk-1)
    case measure=>omega
    case rel=>exact⟨k+1,_,by omega,by have:=HPK.out;simp;omega,rfl,Qh (by rw[HP.out];rfl),HZ.out,HU3⟩
  ·obtain rfl:k=5:=by omega
   have m1:(⟨#[10]⟩:ByteArray).size=1:=rfl;have p1:¬9223372036854775807<sb.size+1:=by omega
   have HSB:=Qh hsb.out;have HUU:=Qh hu.out;clear hsb hu;go_wp2
   go_ret
   exact⟨by rw[HSB.out];rfl,U0.out.trans HUU.out⟩
end
end Go.Proofs.Ytdbjokfejmgepaa
