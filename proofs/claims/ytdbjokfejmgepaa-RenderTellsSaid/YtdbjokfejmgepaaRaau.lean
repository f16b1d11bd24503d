/- Edges held against one another: by the program and by the document. -/
import Derived.Test.YtdbjokfejmgepaaProg
import Derived.Sort.Grow
import Derived.Deep.RegionHeld3
import Derived.IntWalk
import Derived.Test.YtdbjokfejmgepaaRaac
import Derived.Test.YtdbjokfejmgepaaRaae
import Derived.Test.YtdbjokfejmgepaaRaah
import Derived.Test.YtdbjokfejmgepaaRaaj
import Derived.Test.YtdbjokfejmgepaaRaak
namespace Go.Proofs.Ytdbjokfejmgepaa
set_option linter.unusedVariables false
set_option linter.unusedSimpArgs false
section
open Go.RowKit
def Ze4 (a b:Int):Int:=if a<b then -1 else if b<a then 1 else 0
def ltE (a b:Edge):Bool:=if a.f≠b.f then decide (a.f<b.f) else if a.k≠b.k then decide (a.k<b.k) else if a.key≠b.key then decide (a.key<b.key) else decide (a.t<b.t)
def Grw (w w':World):Prop:=∃q os',w'=Sort.grow (w.drewN q) os'
theorem Grw.refl (w:World):Grw w w:=⟨0,#[],by unfold Sort.grow World.drewN;simp⟩
theorem Grw.alloc {w w':World} (h:Grw w w') (o:Obj):Grw w (w'.alloc o):=by
 obtain⟨q,os',rfl⟩:=h;exact⟨q,os'.push o,by unfold Sort.grow World.drewN World.alloc;simp⟩
theorem Grw.drewN {w w':World} (h:Grw w w') (n:Nat):Grw w (w'.drewN n):=by
 obtain⟨q,os',rfl⟩:=h;exact⟨q+n,os',by unfold Sort.grow World.drewN;simp[Nat.add_assoc]⟩
theorem Grw.upd {w w':World} (h:Grw w w'):Upd No w w':=by
 obtain⟨q,os',rfl⟩:=h;exact⟨rfl,rfl,rfl,by unfold Sort.grow World.drewN;simp,fun k hk _=>by unfold Sort.grow World.drewN;simp[Array.getElem?_append_left hk]⟩
end
/- A walk's text:the document's. -/
section
open Go.RowKit
def Edge.ok (e:Edge):Prop:=(-9223372036854775808≤e.f∧e.f≤9223372036854775807)∧(-9223372036854775808≤e.t∧e.t≤9223372036854775807)∧(-9223372036854775808≤e.key∧e.key≤9223372036854775807)
def Zcf (e:Edge):List UInt8:=[32]++Zcc e.k++ZaP e.key++[32]++ZaP e.t
def Zq (l:List Edge):Nat→List UInt8
 |0=>[]
 |k+1=>match l[k]? with
  |none=>Zq l k
  |some e=>(if k=0 then ZaP e.f else Zq l k)++Zcf e
def Za (n:Int):ByteArray:=⟨(ZaP n).toArray⟩
def Zw (n:Int):ByteArray:=⟨(Zcc n).toArray⟩
theorem Zb (n:Int):(Za n).size≤21:=by
 have:=Zb6 n
 simpa[Za,ByteArray.size]using this
theorem ZbH (n:Int):(Zw n).size≤2:=by
 unfold Zw Zcc
 split
 ·decide
 ·split
  ·decide
  ·split<;>decide
theorem Zad (w:World) (n:Int) (h1: -9223372036854775808≤n) (h2:n≤9223372036854775807):
  Calls Try.prog 30 #[.int .i64 n] w fun e w'=>e= .returned (.string (Za n))∧Upd No w w':=ZnN w n h1 h2
theorem Zav (w:World) (n:Int) (h1: -9223372036854775808≤n) (h2:n≤9223372036854775807):
  Calls Try.prog 35 #[.int .i64 n] w fun e w'=>e= .returned (.string (Za n))∧Upd No w w':=ZnX w n h1 h2
theorem Zje (w:World) (n:Int):
  Calls Try.prog 50 #[.int .i64 n] w fun e w'=>e= .returned (.string (Zw n))∧Upd No w w':=Zm3 w n
theorem Zjv (w:World) (n:Int):
  Calls Try.prog 48 #[.int .i64 n] w fun e w'=>e= .returned (.string (Zw n))∧Upd No w w':=Znq w n
theorem Zgf (l:List Edge) (k:Nat):(Zq l k).length≤100*k:=by
 have hw:∀n,(Zcc n).length≤2:=fun n=>by
  have:=ZbH n
  simpa[Zw,ByteArray.size]using this
 induction k with
 |zero=>simp[Zq]
 |succ k ih=>
  unfold Zq
  split
  ·omega
  ·rename_i e _
   have h1:=Zb6 e.f;have h2:=Zb6 e.key;have h3:=Zb6 e.t;have h4:=hw e.k;unfold Zcf
   split<;>simp<;>omega
set_option maxRecDepth 100000 in
set_option maxHeartbeats 1000000 in
theorem Zm4 (F:Nat→Prop) (w:World) (A:Option Addr) (c:Nat) (l:List Edge) (h:Walk F w A l) (hl:l.length≤1000000) (hok:∀e∈l,e.ok):
  Calls Try.prog 32 #[.slice A l.length c] w fun e w'=>e= .returned (.string ⟨(Zq l l.length).toArray⟩)∧Upd No w w':=by
 go_enter Try.func32,Try.ntmps32
 go_wp2
 go_loopg [3,8] l.length (fun gk s i wr=>∃(k:Nat) (sb:ByteArray),k+gk=l.length∧i= .int .i64 k∧s= .string sb∧Hid (sb=⟨(Zq l k).toArray⟩)∧sb.size≤100*k∧Upd No w wr)
 case atStart=>exact⟨0,⟨#[]⟩,by omega,rfl,rfl,Qh rfl,by decide,Upd.refl _ _⟩
 case round=>
  obtain⟨k,sb,hgk,rfl,rfl,hsb,hsz,hu⟩:=hrel
  by_cases hlt:k<l.length
  ·obtain⟨ad,rfl,c0,c1,c2,c3⟩:=(h.upd hu (fun _ _=>id)).at_ hlt;obtain⟨x,hx⟩:∃x,l[k]=x:=⟨_,rfl⟩;rw[hx]at c0 c1 c2 c3;have hX:l[k]? =some x:=by rw[Qg hlt,hx]
   have hk:=Qh (hok x (by rw[←hx];exact List.getElem_mem hlt));clear hx;have hnew:=(Blk.new wr 89 x.cells);have d0:(wr.alloc (.cells x.cells.toArray 89)).cell? ⟨wr.heap.size,0,none⟩=some (.int .i64 x.f):=hnew.cell 0;have d1:(wr.alloc (.cells x.cells.toArray 89)).cell? ⟨wr.heap.size,1,none⟩=some (.int .i64 x.t):=hnew.cell 1;have d2:(wr.alloc (.cells x.cells.toArray 89)).cell? ⟨wr.heap.size,2,none⟩=some (.int .i64 x.k):=hnew.cell 2;have d3:(wr.alloc (.cells x.cells.toArray 89)).cell? ⟨wr.heap.size,3,none⟩=some (.int .i64 x.key):=hnew.cell 3;have D:=Qh (And.intro d0 (And.intro d1 (And.intro d2 d3)));clear d0 d1 d2 d3 hnew
   by_cases hk0:k=0
   ·have hkb:((k:Int)==0)=true:=by rw[beq_iff_eq];omega
    have hm:=Qh (show Zq l (k+1)=ZaP x.f++Zcf x by
     conv=>lhs;unfold Zq
     rw[hX];simp[hk0])
    have n0:=ZbH x.k;have n1:=Zb x.key;have n2:=Zb x.t;have n4:=Zb x.f;have n3:(⟨#[32]⟩:ByteArray).size=1:=rfl;have q1:¬9223372036854775807<1+(Zw x.k).size:=by omega
    have q2:¬9223372036854775807<1+(Zw x.k).size+(Za x.key).size:=by omega
    have q3:¬9223372036854775807<1+(Zw x.k).size+(Za x.key).size+1:=by omega
    have q4:¬9223372036854775807<1+(Zw x.k).size+(Za x.key).size+1+(Za x.t).size:=by omega
    have q5:¬9223372036854775807<(Za x.f).size+(1+(Zw x.k).size+(Za x.key).size+1+(Za x.t).size):=by omega
    clear hX hk0
    go_wp2_with fail
    refine(Zad _ _ hk.out.1.1 hk.out.1.2).mono ?_;rintro e w1 ⟨rfl,hu1⟩;have e0:Upd No w w1.drew:=((hu.alloc _).trans hu1).drew;have e1:w1.drew.cell? ⟨wr.heap.size,1,none⟩=some (.int .i64 x.t):=hu1.keepNo D.out.2.1;have e2:w1.drew.cell? ⟨wr.heap.size,2,none⟩=some (.int .i64 x.k):=hu1.keepNo D.out.2.2.1;have e3:w1.drew.cell? ⟨wr.heap.size,3,none⟩=some (.int .i64 x.key):=hu1.keepNo D.out.2.2.2
    go_wp2_with fail
    go_region_held3 (fun w'=>Upd No w w'∧w'.cell? ⟨wr.heap.size,1,none⟩=some (.int .i64 x.t)∧w'.cell? ⟨wr.heap.size,2,none⟩=some (.int .i64 x.k)∧w'.cell? ⟨wr.heap.size,3,none⟩=some (.int .i64 x.key))
     (first
      |(with_reducible exact⟨e0,e1,e2,e3⟩)
      |(with_reducible exact⟨e0.trans hu2,hu2.keepNo e1,hu2.keepNo e2,hu2.keepNo e3⟩)
      |(go_split_ands;with_reducible exact⟨Upd.trans (by assumption) hu2,hu2.keepNo (by assumption),hu2.keepNo (by assumption),hu2.keepNo (by assumption)⟩))
     (first
      |(go_at_call 50;refine(Zje _ x.k).mono ?_;rintro e w2 ⟨rfl,hu2⟩;have hU:Upd No w w2:=Upd.trans (by first|assumption|exact e0|(go_split_ands;assumption)) hu2)
      |(go_at_call 30;refine(Zad _ _ ?_ ?_).mono ?_;(first|exact hk.out.2.2.1|exact hk.out.2.1.1);(first|exact hk.out.2.2.2|exact hk.out.2.1.2);rintro e w2 ⟨rfl,hu2⟩;have hU:Upd No w w2:=Upd.trans (by first|assumption|exact e0|(go_split_ands;assumption)) hu2))
    have HS:Hid (Za x.f++((⟨#[32]⟩:ByteArray)++Zw x.k++Za x.key++⟨#[32]⟩++Za x.t)=⟨(Zq l (k+1)).toArray⟩):=Qh (by
     rw[hm.out,show(⟨#[32]⟩:ByteArray)=⟨[32].toArray⟩ from rfl];unfold Zw Za Zcf;simp only[ZaJ])
    clear q1 q2 q3 q4 q5 e0 e1 e2 e3;go_wp2
    go_roundg (gk-1)
    case measure=>omega
    case rel=>exact⟨k+1,_,by omega,by go_num,rfl,HS,by simp only[ByteArray.size_append,n3];omega,hU⟩
   ·have hkb:((k:Int)==0)=false:=by rw[beq_eq_false_iff_ne];omega
    have hm:=Qh (show Zq l (k+1)=Zq l k++Zcf x by
     conv=>lhs;unfold Zq
     rw[hX];simp[hk0])
    have n0:=ZbH x.k;have n1:=Zb x.key;have n2:=Zb x.t;have n3:(⟨#[32]⟩:ByteArray).size=1:=rfl;have q1:¬9223372036854775807<1+(Zw x.k).size:=by omega
    have q2:¬9223372036854775807<1+(Zw x.k).size+(Za x.key).size:=by omega
    have q3:¬9223372036854775807<1+(Zw x.k).size+(Za x.key).size+1:=by omega
    have q4:¬9223372036854775807<1+(Zw x.k).size+(Za x.key).size+1+(Za x.t).size:=by omega
    have q5:¬9223372036854775807<sb.size+(1+(Zw x.k).size+(Za x.key).size+1+(Za x.t).size):=by omega
    clear hX hk0
    go_wp2_with fail
    have e0:Upd No w (wr.alloc (.cells #[.int .i64 x.f,.int .i64 x.t,.int .i64 x.k,.int .i64 x.key] 89)).drew:=(hu.alloc _).drew;have e1:((wr.alloc (.cells #[.int .i64 x.f,.int .i64 x.t,.int .i64 x.k,.int .i64 x.key] 89)).drew).cell? ⟨wr.heap.size,1,none⟩=some (.int .i64 x.t):=D.out.2.1;have e2:((wr.alloc (.cells #[.int .i64 x.f,.int .i64 x.t,.int .i64 x.k,.int .i64 x.key] 89)).drew).cell? ⟨wr.heap.size,2,none⟩=some (.int .i64 x.k):=D.out.2.2.1;have e3:((wr.alloc (.cells #[.int .i64 x.f,.int .i64 x.t,.int .i64 x.k,.int .i64 x.key] 89)).drew).cell? ⟨wr.heap.size,3,none⟩=some (.int .i64 x.key):=D.out.2.2.2
    go_region_held3 (fun w'=>Upd No w w'∧w'.cell? ⟨wr.heap.size,1,none⟩=some (.int .i64 x.t)∧w'.cell? ⟨wr.heap.size,2,none⟩=some (.int .i64 x.k)∧w'.cell? ⟨wr.heap.size,3,none⟩=some (.int .i64 x.key))
     (first
      |(with_reducible exact⟨e0,e1,e2,e3⟩)
      |(with_reducible exact⟨e0.trans hu2,hu2.keepNo e1,hu2.keepNo e2,hu2.keepNo e3⟩)
      |(go_split_ands;with_reducible exact⟨Upd.trans (by assumption) hu2,hu2.keepNo (by assumption),hu2.keepNo (by assumption),hu2.keepNo (by assumption)⟩))
     (first
      |(go_at_call 50;refine(Zje _ x.k).mono ?_;rintro e w2 ⟨rfl,hu2⟩;have hU:Upd No w w2:=Upd.trans (by first|assumption|exact e0|(go_split_ands;assumption)) hu2)
      |(go_at_call 30;refine(Zad _ _ ?_ ?_).mono ?_;(first|exact hk.out.2.2.1|exact hk.out.2.1.1);(first|exact hk.out.2.2.2|exact hk.out.2.1.2);rintro e w2 ⟨rfl,hu2⟩;have hU:Upd No w w2:=Upd.trans (by first|assumption|exact e0|(go_split_ands;assumption)) hu2))
    have HS:Hid (sb++((⟨#[32]⟩:ByteArray)++Zw x.k++Za x.key++⟨#[32]⟩++Za x.t)=⟨(Zq l (k+1)).toArray⟩):=Qh (by
     rw[hm.out,hsb.out,show(⟨#[32]⟩:ByteArray)=⟨[32].toArray⟩ from rfl];unfold Zw Za Zcf;simp only[ZaJ])
    clear q1 q2 q3 q4 q5 e0 e1 e2 e3;go_wp2
    go_roundg (gk-1)
    case measure=>omega
    case rel=>exact⟨k+1,_,by omega,by go_num,rfl,HS,by simp only[ByteArray.size_append,n3];omega,hU⟩
  ·obtain rfl:k=l.length:=by omega
   go_wp2
   go_ret
   exact⟨by rw[←hsb.out];rfl,hu⟩
end
/- An operation's text:the program's,and the document's. -/
section
open Go.RowKit
def Zl (o:HOp):ByteArray:=
 if opB o=false then ⟨#[]⟩ else if o.read=false then ⟨#[119]⟩++Za o.key else if o.tx=0 then ⟨#[114]⟩++Za o.key++⟨#[64,48]⟩
 else ⟨#[114]⟩++Za o.key++⟨#[64]⟩++Za o.tx++⟨#[46]⟩++Za o.nth
set_option maxRecDepth 100000 in
set_option maxHeartbeats 1000000 in
theorem Zmt (w:World) (k t n:Int) (hk:i64 k∧i64 t∧i64 n):Calls Try.prog 47 #[.agg #[.bool false,.int .i64 k,.int .i64 t,.int .i64 n]] w fun e w'=>e= .returned (.string (Zl ⟨false,k,t,n⟩))∧Upd No w w':=by
 have HR:=Qh (fun W=>Zjx W ⟨false,k,t,n⟩);unfold HOp.cells at HR;obtain⟨z,hz⟩:∃z,w.heap.size=z:=⟨_,rfl⟩;obtain⟨wb,hwb⟩:∃wb,w.alloc (.cells #[.bool false,.int .i64 k,.int .i64 t,.int .i64 n] 58)=wb:=⟨_,rfl⟩;have ub:Upd No w wb:=by rw[←hwb];exact(Upd.refl No w).alloc _
 have bb:Blk wb z 58 [.bool false,.int .i64 k,.int .i64 t,.int .i64 n]:=by rw[←hwb,←hz];exact Blk.new w _ _
 have t0:∀W,Upd No wb W→W.cell? ⟨z,0,none⟩=some (.bool false):=fun W u=>(bb.upd u id).cell 0
 have t1:∀W,Upd No wb W→W.cell? ⟨z,1,none⟩=some (.int .i64 k):=fun W u=>(bb.upd u id).cell 1
 have t2:∀W,Upd No wb W→W.cell? ⟨z,2,none⟩=some (.int .i64 t):=fun W u=>(bb.upd u id).cell 2
 have t3:∀W,Upd No wb W→W.cell? ⟨z,3,none⟩=some (.int .i64 n):=fun W u=>(bb.upd u id).cell 3
 have hbz:Upd No wb wb:=Upd.refl _ _;have UB:=Qh ub;have HK:=Qh hk;have n1:=Zb k;have n2:=Zb t;have n3:=Zb n;have m1:(⟨#[119]⟩:ByteArray).size=1:=rfl;have m2:(⟨#[114]⟩:ByteArray).size=1:=rfl;have m3:(⟨#[64]⟩:ByteArray).size=1:=rfl;have m4:(⟨#[46]⟩:ByteArray).size=1:=rfl;have m5:(⟨#[64,48]⟩:ByteArray).size=2:=rfl;have p1:¬9223372036854775807<1+(Za k).size:=by omega
 have p2:¬9223372036854775807<1+(Za k).size+2:=by omega
 have p3:¬9223372036854775807<1+(Za k).size+1:=by omega
 have p4:¬9223372036854775807<1+(Za k).size+1+(Za t).size:=by omega
 have p5:¬9223372036854775807<1+(Za k).size+1+(Za t).size+1:=by omega
 have p6:¬9223372036854775807<1+(Za k).size+1+(Za t).size+1+(Za n).size:=by omega
 clear bb ub hk;obtain⟨bo,hbo⟩:∃b,opB ⟨false,k,t,n⟩=b:=⟨_,rfl⟩;rw[hbo]at HR
 cases bo
 ·have HT:=Qh (show Zl ⟨false,k,t,n⟩=⟨#[]⟩ by unfold Zl;rw[if_pos hbo]);have HR2:=Qh (show Calls Try.prog 66 #[.agg #[.bool false,.int .i64 k,.int .i64 t,.int .i64 n]] wb fun e w'=>e= .returned (.int .i64 1)∧Upd No wb w' from HR.out wb);clear HR hbo
  go_enter Try.func47,Try.ntmps47
  go_wp2_with fail
  refine(HR2.out).mono ?_;rintro e w1 ⟨rfl,hu1⟩;go_wp2
  go_ret
  exact⟨by rw[HT.out];rfl,UB.out.trans hu1⟩
 ·have HT:=Qh (show Zl ⟨false,k,t,n⟩=⟨#[119]⟩++Za k by unfold Zl;rw[if_neg (by rw[hbo];decide),if_pos rfl]);have HR2:=Qh (show Calls Try.prog 66 #[.agg #[.bool false,.int .i64 k,.int .i64 t,.int .i64 n]] wb fun e w'=>e= .returned (.int .i64 0)∧Upd No wb w' from HR.out wb);clear HR hbo
  go_enter Try.func47,Try.ntmps47
  go_wp2_with fail
  refine(HR2.out).mono ?_;rintro e w1 ⟨rfl,hu1⟩
  go_wp2_with fail
  refine(Zav _ k HK.out.1.1 HK.out.1.2).mono ?_;rintro e w2 ⟨rfl,hu2⟩;go_wp2
  go_ret
  exact⟨by rw[HT.out];rfl,UB.out.trans (hu1.trans hu2)⟩
set_option maxRecDepth 100000 in
set_option maxHeartbeats 1000000 in
theorem Zmv (w:World) (k t n:Int) (hk:i64 k∧i64 t∧i64 n):Calls Try.prog 47 #[.agg #[.bool true,.int .i64 k,.int .i64 t,.int .i64 n]] w fun e w'=>e= .returned (.string (Zl ⟨true,k,t,n⟩))∧Upd No w w':=by
 have HR:=Qh (fun W=>Zjx W ⟨true,k,t,n⟩);unfold HOp.cells at HR;obtain⟨z,hz⟩:∃z,w.heap.size=z:=⟨_,rfl⟩;obtain⟨wb,hwb⟩:∃wb,w.alloc (.cells #[.bool true,.int .i64 k,.int .i64 t,.int .i64 n] 58)=wb:=⟨_,rfl⟩;have ub:Upd No w wb:=by rw[←hwb];exact(Upd.refl No w).alloc _
 have bb:Blk wb z 58 [.bool true,.int .i64 k,.int .i64 t,.int .i64 n]:=by rw[←hwb,←hz];exact Blk.new w _ _
 have t0:∀W,Upd No wb W→W.cell? ⟨z,0,none⟩=some (.bool true):=fun W u=>(bb.upd u id).cell 0
 have t1:∀W,Upd No wb W→W.cell? ⟨z,1,none⟩=some (.int .i64 k):=fun W u=>(bb.upd u id).cell 1
 have t2:∀W,Upd No wb W→W.cell? ⟨z,2,none⟩=some (.int .i64 t):=fun W u=>(bb.upd u id).cell 2
 have t3:∀W,Upd No wb W→W.cell? ⟨z,3,none⟩=some (.int .i64 n):=fun W u=>(bb.upd u id).cell 3
 have hbz:Upd No wb wb:=Upd.refl _ _;have UB:=Qh ub;have HK:=Qh hk;have n1:=Zb k;have n2:=Zb t;have n3:=Zb n;have m1:(⟨#[119]⟩:ByteArray).size=1:=rfl;have m2:(⟨#[114]⟩:ByteArray).size=1:=rfl;have m3:(⟨#[64]⟩:ByteArray).size=1:=rfl;have m4:(⟨#[46]⟩:ByteArray).size=1:=rfl;have m5:(⟨#[64,48]⟩:ByteArray).size=2:=rfl;have p1:¬9223372036854775807<1+(Za k).size:=by omega
 have p2:¬9223372036854775807<1+(Za k).size+2:=by omega
 have p3:¬9223372036854775807<1+(Za k).size+1:=by omega
 have p4:¬9223372036854775807<1+(Za k).size+1+(Za t).size:=by omega
 have p5:¬9223372036854775807<1+(Za k).size+1+(Za t).size+1:=by omega
 have p6:¬9223372036854775807<1+(Za k).size+1+(Za t).size+1+(Za n).size:=by omega
 clear bb ub hk;obtain⟨bo,hbo⟩:∃b,opB ⟨true,k,t,n⟩=b:=⟨_,rfl⟩;rw[hbo]at HR
 cases bo
 ·have HT:=Qh (show Zl ⟨true,k,t,n⟩=⟨#[]⟩ by unfold Zl;rw[if_pos hbo]);have HR2:=Qh (show Calls Try.prog 66 #[.agg #[.bool true,.int .i64 k,.int .i64 t,.int .i64 n]] wb fun e w'=>e= .returned (.int .i64 1)∧Upd No wb w' from HR.out wb);clear HR hbo
  go_enter Try.func47,Try.ntmps47
  go_wp2_with fail
  refine(HR2.out).mono ?_;rintro e w1 ⟨rfl,hu1⟩;go_wp2
  go_ret
  exact⟨by rw[HT.out];rfl,UB.out.trans hu1⟩
 ·have HR2:=Qh (show Calls Try.prog 66 #[.agg #[.bool true,.int .i64 k,.int .i64 t,.int .i64 n]] wb fun e w'=>e= .returned (.int .i64 0)∧Upd No wb w' from HR.out wb);clear HR
  by_cases h0:t=0
  ·have HT:=Qh (show Zl ⟨true,k,t,n⟩=⟨#[114]⟩++Za k++⟨#[64,48]⟩ by unfold Zl;rw[if_neg (by rw[hbo];decide),if_neg (by simp),if_pos h0]);have h0b:(t==0)=true:=by rw[h0];rfl
   clear hbo h0
   go_enter Try.func47,Try.ntmps47
   go_wp2_with fail
   refine(HR2.out).mono ?_;rintro e w1 ⟨rfl,hu1⟩
   go_wp2_with fail
   refine(Zav _ k HK.out.1.1 HK.out.1.2).mono ?_;rintro e w2 ⟨rfl,hu2⟩;go_wp2
   go_ret
   exact⟨by rw[HT.out];rfl,UB.out.trans (hu1.trans hu2)⟩
  ·have HT:=Qh (show Zl ⟨true,k,t,n⟩=⟨#[114]⟩++Za k++⟨#[64]⟩++Za t++⟨#[46]⟩++Za n by unfold Zl;rw[if_neg (by rw[hbo];decide),if_neg (by simp),if_neg h0]);have h0b:(t==0)=false:=by simpa using h0
   clear hbo h0
   go_enter Try.func47,Try.ntmps47
   go_wp2_with fail
   refine(HR2.out).mono ?_;rintro e w1 ⟨rfl,hu1⟩;have s1:∀W,Upd No w1 W→W.cell? ⟨z,1,none⟩=some (.int .i64 k):=fun W u=>t1 W (hu1.trans u)
   have s2:∀W,Upd No w1 W→W.cell? ⟨z,2,none⟩=some (.int .i64 t):=fun W u=>t2 W (hu1.trans u)
   have s3:∀W,Upd No w1 W→W.cell? ⟨z,3,none⟩=some (.int .i64 n):=fun W u=>t3 W (hu1.trans u)
   go_wp2;refine wp_region_noPanic ?_;refine wp_region_held_drew (S:=(fun w'=>Upd No w1 w')) (by kernel_rfl) ?_ (fun hHeld=> ?_)
   ·(first|exact(Upd.refl No _).drew|exact hHeld.trans hu3)
   refine wpK 0 rfl ?_;refine wpK 1 rfl ?_;refine wpK 5 rfl ?_;refine wpK 6 rfl ?_;refine wpK 10 rfl ?_;refine wpK 11 rfl ?_;refine wpR [2] ?_;refine wpC rfl (fun K hK=> ?_) AllReadyH.nil;go_simp
   (first
  |(go_at_call 35;refine(Zav _ k HK.out.1.1 HK.out.1.2).mono ?_;rintro e w3 ⟨rfl,hu3⟩))
   try (go_wp2_with fail)
   refine hK.out _ _ ?_ (fun hHeld=> ?_)
   ·(first|exact(Upd.refl No _).drew|exact hHeld.trans hu3)
   clear hK K
   try simp only[Act.put,sT,sS,sZ]
   refine wpK 3 rfl ?_;refine wpK 4 rfl ?_;refine wpR [7] ?_;refine wpC rfl (fun K hK=> ?_) AllReadyH.nil;go_simp
   (first
  |(go_at_call 35;refine(Zav _ t HK.out.2.1.1 HK.out.2.1.2).mono ?_;rintro e w3 ⟨rfl,hu3⟩))
   try (go_wp2_with fail)
   refine hK.out _ _ ?_ (fun hHeld=> ?_)
   ·(first|exact(Upd.refl No _).drew|exact hHeld.trans hu3)
   clear hK K
   try simp only[Act.put,sT,sS,sZ]
   refine wpK 8 rfl ?_;refine wpK 9 rfl ?_;refine wpR [12] ?_;refine wpC rfl (fun K hK=> ?_) AllReadyH.nil;go_simp
   (first
  |(go_at_call 35;refine(Zav _ n HK.out.2.2.1 HK.out.2.2.2).mono ?_;rintro e w3 ⟨rfl,hu3⟩))
   try (go_wp2_with fail)
   refine hK.out _ _ ?_ (fun hHeld=> ?_)
   ·(first|exact(Upd.refl No _).drew|exact hHeld.trans hu3)
   clear hK K
   try simp only[Act.put,sT,sS,sZ]
   refine wpK 13 rfl ?_;refine wpK 14 rfl ?_;refine wpD (NoPanic.normal ?_);go_wp2
   go_ret
   exact⟨by rw[HT.out];rfl,UB.out.trans (hu1.trans hHeld)⟩
theorem Zhf (w:World) (o:HOp) (hk:o.ok):Calls Try.prog 47 #[.agg o.cells.toArray] w fun e w'=>e= .returned (.string (Zl o))∧Upd No w w':=by
 obtain⟨rd,k,t,n⟩:=o
 cases rd
 ·exact Zmt w k t n hk
 ·exact Zmv w k t n hk
end
/- An operation's text:the document's. -/
section
open Go.RowKit
theorem ZmV (a:ByteArray):a++⟨#[64]⟩++Za 0=a++⟨#[64,48]⟩:=by
 have h:(⟨#[64]⟩:ByteArray)++Za 0=⟨#[64,48]⟩:=by kernel_rfl
 rw[←h]
 apply ByteArray.ext
 simp
set_option maxRecDepth 100000 in
set_option maxHeartbeats 1000000 in
theorem Zl6 (w:World) (k t n:Int) (hk:i64 k∧i64 t∧i64 n):Calls Try.prog 31 #[.agg #[.bool false,.int .i64 k,.int .i64 t,.int .i64 n]] w fun e w'=>e= .returned (.string (Zl ⟨false,k,t,n⟩))∧Upd No w w':=by
 have HR:=Qh (fun W=>Zg8 W ⟨false,k,t,n⟩);unfold HOp.cells at HR;obtain⟨z,hz⟩:∃z,w.heap.size=z:=⟨_,rfl⟩;obtain⟨wb,hwb⟩:∃wb,w.alloc (.cells #[.bool false,.int .i64 k,.int .i64 t,.int .i64 n] 58)=wb:=⟨_,rfl⟩;have ub:Upd No w wb:=by rw[←hwb];exact(Upd.refl No w).alloc _
 have bb:Blk wb z 58 [.bool false,.int .i64 k,.int .i64 t,.int .i64 n]:=by rw[←hwb,←hz];exact Blk.new w _ _
 have t0:∀W,Upd No wb W→W.cell? ⟨z,0,none⟩=some (.bool false):=fun W u=>(bb.upd u id).cell 0
 have t1:∀W,Upd No wb W→W.cell? ⟨z,1,none⟩=some (.int .i64 k):=fun W u=>(bb.upd u id).cell 1
 have t2:∀W,Upd No wb W→W.cell? ⟨z,2,none⟩=some (.int .i64 t):=fun W u=>(bb.upd u id).cell 2
 have t3:∀W,Upd No wb W→W.cell? ⟨z,3,none⟩=some (.int .i64 n):=fun W u=>(bb.upd u id).cell 3
 have hbz:Upd No wb wb:=Upd.refl _ _;have UB:=Qh ub;have HK:=Qh hk;have n1:=Zb k;have n2:=Zb t;have n3:=Zb n;have m1:(⟨#[119]⟩:ByteArray).size=1:=rfl;have m2:(⟨#[114]⟩:ByteArray).size=1:=rfl;have m3:(⟨#[64]⟩:ByteArray).size=1:=rfl;have m4:(⟨#[46]⟩:ByteArray).size=1:=rfl;have m5:(⟨#[64,48]⟩:ByteArray).size=2:=rfl;have p1:¬9223372036854775807<1+(Za k).size:=by omega
 have p2:¬9223372036854775807<1+(Za k).size+2:=by omega
 have p3:¬9223372036854775807<1+(Za k).size+1:=by omega
 have p4:¬9223372036854775807<1+(Za k).size+1+(Za t).size:=by omega
 have p5:¬9223372036854775807<1+(Za k).size+1+(Za t).size+1:=by omega
 have p6:¬9223372036854775807<1+(Za k).size+1+(Za t).size+1+(Za n).size:=by omega
 clear bb ub hk;obtain⟨bo,hbo⟩:∃b,opB ⟨false,k,t,n⟩=b:=⟨_,rfl⟩;rw[hbo]at HR
 cases bo
 ·have HT:=Qh (show Zl ⟨false,k,t,n⟩=⟨#[]⟩ by unfold Zl;rw[if_pos hbo]);have HR2:=Qh (show Calls Try.prog 49 #[.agg #[.bool false,.int .i64 k,.int .i64 t,.int .i64 n]] wb fun e w'=>e= .returned (.bool false)∧Upd No wb w' from HR.out wb);clear HR hbo
  go_enter Try.func31,Try.ntmps31
  go_wp2_with fail
  refine(HR2.out).mono ?_;rintro e w1 ⟨rfl,hu1⟩;go_wp2
  go_ret
  exact⟨by rw[HT.out];rfl,UB.out.trans hu1⟩
 ·have HT:=Qh (show Zl ⟨false,k,t,n⟩=⟨#[119]⟩++Za k by unfold Zl;rw[if_neg (by rw[hbo];decide),if_pos rfl]);have HR2:=Qh (show Calls Try.prog 49 #[.agg #[.bool false,.int .i64 k,.int .i64 t,.int .i64 n]] wb fun e w'=>e= .returned (.bool true)∧Upd No wb w' from HR.out wb);clear HR hbo
  go_enter Try.func31,Try.ntmps31
  go_wp2_with fail
  refine(HR2.out).mono ?_;rintro e w1 ⟨rfl,hu1⟩
  go_wp2_with fail
  refine(Zad _ k HK.out.1.1 HK.out.1.2).mono ?_;rintro e w2 ⟨rfl,hu2⟩;go_wp2
  go_ret
  exact⟨by rw[HT.out];rfl,UB.out.trans (hu1.trans hu2)⟩
set_option maxRecDepth 100000 in
set_option maxHeartbeats 1000000 in
theorem Zl8 (w:World) (k t n:Int) (hk:i64 k∧i64 t∧i64 n):Calls Try.prog 31 #[.agg #[.bool true,.int .i64 k,.int .i64 t,.int .i64 n]] w fun e w'=>e= .returned (.string (Zl ⟨true,k,t,n⟩))∧Upd No w w':=by
 have HR:=Qh (fun W=>Zg8 W ⟨true,k,t,n⟩);unfold HOp.cells at HR;obtain⟨z,hz⟩:∃z,w.heap.size=z:=⟨_,rfl⟩;obtain⟨wb,hwb⟩:∃wb,w.alloc (.cells #[.bool true,.int .i64 k,.int .i64 t,.int .i64 n] 58)=wb:=⟨_,rfl⟩;have ub:Upd No w wb:=by rw[←hwb];exact(Upd.refl No w).alloc _
 have bb:Blk wb z 58 [.bool true,.int .i64 k,.int .i64 t,.int .i64 n]:=by rw[←hwb,←hz];exact Blk.new w _ _
 have t0:∀W,Upd No wb W→W.cell? ⟨z,0,none⟩=some (.bool true):=fun W u=>(bb.upd u id).cell 0
 have t1:∀W,Upd No wb W→W.cell? ⟨z,1,none⟩=some (.int .i64 k):=fun W u=>(bb.upd u id).cell 1
 have t2:∀W,Upd No wb W→W.cell? ⟨z,2,none⟩=some (.int .i64 t):=fun W u=>(bb.upd u id).cell 2
 have t3:∀W,Upd No wb W→W.cell? ⟨z,3,none⟩=some (.int .i64 n):=fun W u=>(bb.upd u id).cell 3
 have hbz:Upd No wb wb:=Upd.refl _ _;have UB:=Qh ub;have HK:=Qh hk;have n1:=Zb k;have n2:=Zb t;have n3:=Zb n;have m1:(⟨#[119]⟩:ByteArray).size=1:=rfl;have m2:(⟨#[114]⟩:ByteArray).size=1:=rfl;have m3:(⟨#[64]⟩:ByteArray).size=1:=rfl;have m4:(⟨#[46]⟩:ByteArray).size=1:=rfl;have m5:(⟨#[64,48]⟩:ByteArray).size=2:=rfl;have p1:¬9223372036854775807<1+(Za k).size:=by omega
 have p2:¬9223372036854775807<1+(Za k).size+2:=by omega
 have p3:¬9223372036854775807<1+(Za k).size+1:=by omega
 have p4:¬9223372036854775807<1+(Za k).size+1+(Za t).size:=by omega
 have p5:¬9223372036854775807<1+(Za k).size+1+(Za t).size+1:=by omega
 have p6:¬9223372036854775807<1+(Za k).size+1+(Za t).size+1+(Za n).size:=by omega
 clear bb ub hk;obtain⟨bo,hbo⟩:∃b,opB ⟨true,k,t,n⟩=b:=⟨_,rfl⟩;rw[hbo]at HR
 cases bo
 ·have HT:=Qh (show Zl ⟨true,k,t,n⟩=⟨#[]⟩ by unfold Zl;rw[if_pos hbo]);have HR2:=Qh (show Calls Try.prog 49 #[.agg #[.bool true,.int .i64 k,.int .i64 t,.int .i64 n]] wb fun e w'=>e= .returned (.bool false)∧Upd No wb w' from HR.out wb);clear HR hbo
  go_enter Try.func31,Try.ntmps31
  go_wp2_with fail
  refine(HR2.out).mono ?_;rintro e w1 ⟨rfl,hu1⟩;go_wp2
  go_ret
  exact⟨by rw[HT.out];rfl,UB.out.trans hu1⟩
 ·have HR2:=Qh (show Calls Try.prog 49 #[.agg #[.bool true,.int .i64 k,.int .i64 t,.int .i64 n]] wb fun e w'=>e= .returned (.bool true)∧Upd No wb w' from HR.out wb);clear HR
  by_cases h0:t=0
  ·have HT:=Qh (show Zl ⟨true,k,t,n⟩=⟨#[114]⟩++Za k++⟨#[64]⟩++Za t by unfold Zl;rw[if_neg (by rw[hbo];decide),if_neg (by simp),if_pos h0,h0,ZmV]);have h0b:(t==0)=true:=by rw[h0];rfl
   clear hbo h0
   go_enter Try.func31,Try.ntmps31
   go_wp2_with fail
   refine(HR2.out).mono ?_;rintro e w1 ⟨rfl,hu1⟩;have s1:∀W,Upd No w1 W→W.cell? ⟨z,1,none⟩=some (.int .i64 k):=fun W u=>t1 W (hu1.trans u)
   have s2:∀W,Upd No w1 W→W.cell? ⟨z,2,none⟩=some (.int .i64 t):=fun W u=>t2 W (hu1.trans u)
   have s3:∀W,Upd No w1 W→W.cell? ⟨z,3,none⟩=some (.int .i64 n):=fun W u=>t3 W (hu1.trans u)
   go_wp2;refine wp_region_noPanic ?_;refine wp_region_held_drew (S:=(fun w'=>Upd No w1 w')) (by kernel_rfl) ?_ (fun hHeld=> ?_)
   ·(first|exact(Upd.refl No _).drew|exact hHeld.trans hu3)
   refine wpK 0 rfl ?_;refine wpK 1 rfl ?_;refine wpK 5 rfl ?_;refine wpK 6 rfl ?_;refine wpR [2] ?_;refine wpC rfl (fun K hK=> ?_) AllReadyH.nil;go_simp
   (first
  |(go_at_call 30;refine(Zad _ k HK.out.1.1 HK.out.1.2).mono ?_;rintro e w3 ⟨rfl,hu3⟩))
   try (go_wp2_with fail)
   refine hK.out _ _ ?_ (fun hHeld=> ?_)
   ·(first|exact(Upd.refl No _).drew|exact hHeld.trans hu3)
   clear hK K
   try simp only[Act.put,sT,sS,sZ]
   refine wpK 3 rfl ?_;refine wpK 4 rfl ?_;refine wpR [7] ?_;refine wpC rfl (fun K hK=> ?_) AllReadyH.nil;go_simp
   (first
  |(go_at_call 30;refine(Zad _ t HK.out.2.1.1 HK.out.2.1.2).mono ?_;rintro e w3 ⟨rfl,hu3⟩))
   try (go_wp2_with fail)
   refine hK.out _ _ ?_ (fun hHeld=> ?_)
   ·(first|exact(Upd.refl No _).drew|exact hHeld.trans hu3)
   clear hK K
   try simp only[Act.put,sT,sS,sZ]
   refine wpK 8 rfl ?_;refine wpK 9 rfl ?_;refine wpD (NoPanic.normal ?_);go_wp2
   go_ret
   exact⟨by rw[HT.out];rfl,UB.out.trans (hu1.trans hHeld)⟩
  ·have HT:=Qh (show Zl ⟨true,k,t,n⟩=⟨#[114]⟩++Za k++⟨#[64]⟩++Za t++⟨#[46]⟩++Za n by unfold Zl;rw[if_neg (by rw[hbo];decide),if_neg (by simp),if_neg h0]);have h0b:(t==0)=false:=by simpa using h0
   clear hbo h0
   go_enter Try.func31,Try.ntmps31
   go_wp2_with fail
   refine(HR2.out).mono ?_;rintro e w1 ⟨rfl,hu1⟩;have s1:∀W,Upd No w1 W→W.cell? ⟨z,1,none⟩=some (.int .i64 k):=fun W u=>t1 W (hu1.trans u)
   have s2:∀W,Upd No w1 W→W.cell? ⟨z,2,none⟩=some (.int .i64 t):=fun W u=>t2 W (hu1.trans u)
   have s3:∀W,Upd No w1 W→W.cell? ⟨z,3,none⟩=some (.int .i64 n):=fun W u=>t3 W (hu1.trans u)
   go_wp2;refine wp_region_noPanic ?_;refine wp_region_held_drew (S:=(fun w'=>Upd No w1 w')) (by kernel_rfl) ?_ (fun hHeld=> ?_)
   ·(first|exact(Upd.refl No _).drew|exact hHeld.trans hu3)
   refine wpK 0 rfl ?_;refine wpK 1 rfl ?_;refine wpK 5 rfl ?_;refine wpK 6 rfl ?_;refine wpR [2] ?_;refine wpC rfl (fun K hK=> ?_) AllReadyH.nil;go_simp
   (first
  |(go_at_call 30;refine(Zad _ k HK.out.1.1 HK.out.1.2).mono ?_;rintro e w3 ⟨rfl,hu3⟩))
   try (go_wp2_with fail)
   refine hK.out _ _ ?_ (fun hHeld=> ?_)
   ·(first|exact(Upd.refl No _).drew|exact hHeld.trans hu3)
   clear hK K
   try simp only[Act.put,sT,sS,sZ]
   refine wpK 3 rfl ?_;refine wpK 4 rfl ?_;refine wpR [7] ?_;refine wpC rfl (fun K hK=> ?_) AllReadyH.nil;go_simp
   (first
  |(go_at_call 30;refine(Zad _ t HK.out.2.1.1 HK.out.2.1.2).mono ?_;rintro e w3 ⟨rfl,hu3⟩))
   try (go_wp2_with fail)
   refine hK.out _ _ ?_ (fun hHeld=> ?_)
   ·(first|exact(Upd.refl No _).drew|exact hHeld.trans hu3)
   clear hK K
   try simp only[Act.put,sT,sS,sZ]
   refine wpK 8 rfl ?_;refine wpK 9 rfl ?_;refine wpD (NoPanic.normal ?_)
   go_wp2_with fail
   refine(Zad _ n HK.out.2.2.1 HK.out.2.2.2).mono ?_;rintro e w4 ⟨rfl,hu4⟩;go_wp2
   go_ret
   exact⟨by rw[HT.out];rfl,UB.out.trans (hu1.trans (hHeld.trans hu4))⟩
theorem Zg7 (w:World) (o:HOp) (hk:o.ok):Calls Try.prog 31 #[.agg o.cells.toArray] w fun e w'=>e= .returned (.string (Zl o))∧Upd No w w':=by
 obtain⟨rd,k,t,n⟩:=o
 cases rd
 ·exact Zl6 w k t n hk
 ·exact Zl8 w k t n hk
end
/- A transaction's text:the document's. -/
section
open Go.RowKit
theorem Za1 (o:HOp):(Zl o).size≤70:=by
 have n1:=Zb o.key;have n2:=Zb o.tx;have n3:=Zb o.nth;have m1:(⟨#[119]⟩:ByteArray).size=1:=rfl;have m2:(⟨#[114]⟩:ByteArray).size=1:=rfl;have m3:(⟨#[64]⟩:ByteArray).size=1:=rfl;have m4:(⟨#[46]⟩:ByteArray).size=1:=rfl;have m5:(⟨#[64,48]⟩:ByteArray).size=2:=rfl;have m0:(⟨#[]⟩:ByteArray).size=0:=rfl;unfold Zl
 split
 ·omega
 ·split
  ·rw[ByteArray.size_append];omega
  ·split
   ·rw[ByteArray.size_append,ByteArray.size_append];omega
   ·rw[ByteArray.size_append,ByteArray.size_append,ByteArray.size_append,ByteArray.size_append,ByteArray.size_append];omega
def ZD (i:Int) (d:Bool) (l:List HOp):List UInt8:=ZaP i++[32,if d then 99 else 97]++l.flatMap fun o=>32::(Zl o).data.toList
theorem ZcQ (i:Int) (d:Bool) {l:List HOp} {k:Nat} {x:HOp} (hk:k<l.length) (hx:l[k]=x):ZD i d (l.take (k+1))=ZD i d (l.take k)++32::(Zl x).data.toList:=by
 subst hx;unfold ZD;rw[List.take_succ_eq_append_getElem hk,List.flatMap_append];simp
theorem Zg3 (a:List UInt8) (s:ByteArray):(⟨a.toArray⟩:ByteArray)++(⟨#[32]⟩++s)=⟨(a++32::s.data.toList).toArray⟩:=by
 apply ByteArray.ext
 simp
set_option maxRecDepth 100000 in
set_option maxHeartbeats 1000000 in
theorem Zl7 (F:Nat→Prop) (w:World) (i:Int) (d:Bool) (A:Option Addr) (c:Nat) (l:List HOp) (hi:i64 i) (h:HOps F w A l) (hl:l.length≤100000) (hok:∀o∈l,o.ok):
  Calls Try.prog 15 #[.agg #[.int .i64 i,.bool d,.slice A l.length c]] w fun e w'=>e= .returned (.string ⟨(ZD i d l).toArray⟩)∧Upd No w w':=by
 obtain⟨z,hz⟩:∃z,w.heap.size=z:=⟨_,rfl⟩;obtain⟨wb,hwb⟩:∃wb,w.alloc (.cells #[.int .i64 i,.bool d,.slice A l.length c] 35)=wb:=⟨_,rfl⟩;have ub:Upd No w wb:=by rw[←hwb];exact(Upd.refl No w).alloc _
 have bb:Blk wb z 35 [.int .i64 i,.bool d,.slice A l.length c]:=by rw[←hwb,←hz];exact Blk.new w _ _
 have t0:∀W,Upd No wb W→W.cell? ⟨z,0,none⟩=some (.int .i64 i):=fun W u=>(bb.upd u id).cell 0
 have t1:∀W,Upd No wb W→W.cell? ⟨z,1,none⟩=some (.bool d):=fun W u=>(bb.upd u id).cell 1
 have t2:∀W,Upd No wb W→W.cell? ⟨z,2,none⟩=some (.slice A l.length c):=fun W u=>(bb.upd u id).cell 2
 have hbz:Upd No wb wb:=Upd.refl _ _;have HH:=Qh (fun W (u:Upd No wb W)=>HOps.upd h (ub.trans u) (fun _ _=>id));have UB:=Qh ub;have HI:=Qh hi;have HOK:=Qh hok;have n1:=Zb i;have m1:(⟨#[32,97]⟩:ByteArray).size=2:=rfl;have m2:(⟨#[32,99]⟩:ByteArray).size=2:=rfl;have m3:(⟨#[32]⟩:ByteArray).size=1:=rfl;have p1:¬9223372036854775807<(Za i).size+2:=by omega
 clear bb ub h hi hok
 go_enter Try.func15,Try.ntmps15
 go_wp2_with fail
 refine(Zad _ i HI.out.1 HI.out.2).mono ?_;rintro e w1 ⟨rfl,hu1⟩
 cases d
 ·have UW:=Qh hu1;go_wp2;clear hu1
  go_loopg [3,19] l.length (fun gk s j wr=>∃(k:Nat) (sb:ByteArray),k+gk=l.length∧j= .int .i64 (k:Int)∧s= .string sb∧Hid (sb=⟨(ZD i false (l.take k)).toArray⟩)∧sb.size≤23+71*k∧Upd No wb wr)
  case atStart=>exact⟨0,_,by omega,rfl,rfl,Qh (show Za i++(⟨#[32,97]⟩:ByteArray)=⟨(ZD i false (l.take 0)).toArray⟩ by unfold Za ZD;apply ByteArray.ext;simp),by rw[ByteArray.size_append];omega,UW.out⟩
  case round=>
   obtain⟨k,sb,hgk,rfl,rfl,hs,hsz,hu⟩:=hrel
   by_cases hlt:k<l.length
   ·obtain⟨ad,hAd,q0,q1,q2,q3⟩:=(HH.out _ hu).at_ hlt;obtain⟨x,hx⟩:∃x,l[k]=x:=⟨_,rfl⟩;rw[hx]at q0 q1 q2 q3;subst hAd;have HS:=Qh (show sb++(⟨#[32]⟩++Zl x)=⟨(ZD i false (l.take (k+1))).toArray⟩ by rw[hs.out,ZcQ i false hlt hx,Zg3]);have hxo:x.ok:=HOK.out x (hx▸List.getElem_mem hlt);have b1:(0:Int)≤(k:Int):=Qn _;have b2:(k:Int)<(l.length:Int):=by omega
    have n2:=Za1 x;have p3:¬9223372036854775807<1+(Zl x).size:=by omega
    have p4:¬9223372036854775807<sb.size+(1+(Zl x).size):=by omega
    obtain⟨zx,hzx⟩:∃zx,wr.heap.size=zx:=⟨_,rfl⟩;obtain⟨wx,hwx⟩:∃wx,wr.alloc (.cells #[.bool x.read,.int .i64 x.key,.int .i64 x.tx,.int .i64 x.nth] 58)=wx:=⟨_,rfl⟩;have ux:Upd No wr wx:=by rw[←hwx];exact(Upd.refl No wr).alloc _
    have bx:Blk wx zx 58 [.bool x.read,.int .i64 x.key,.int .i64 x.tx,.int .i64 x.nth]:=by rw[←hwx,←hzx];exact Blk.new wr _ _
    have x0:=bx.cell 0;have x1:=bx.cell 1;have x2:=bx.cell 2;have x3:=bx.cell 3;simp only[Qz,Qs]at x0 x1 x2 x3;have HT:=Qh (Zg7 wx x hxo);unfold HOp.cells at HT;have HU:=Qh (hu.trans ux);have hsz2:(sb++(⟨#[32]⟩++Zl x)).size≤23+71*(k+1):=by rw[ByteArray.size_append,ByteArray.size_append];omega
    have HZ:=Qh hsz2;clear hx hs hxo ux bx hu hsz2
    go_wp2_with fail
    refine(HT.out).mono ?_;rintro e w5 ⟨rfl,hu5⟩;have HU5:=Qh (HU.out.trans hu5);clear hu5;go_wp2
    go_roundg (gk-1)
    case measure=>omega
    case rel=>exact⟨k+1,_,by omega,by go_num,rfl,HS,HZ.out,HU5.out⟩
   ·obtain rfl:k=l.length:=by omega
    go_wp2
    go_ret
    exact⟨by rw[hs.out,List.take_length];rfl,UB.out.trans hu⟩
 ·have U1:=Qh hu1;have p2:¬9223372036854775807<(Za i).size+2:=by omega
  go_wp2_with fail
  refine(Zad _ i HI.out.1 HI.out.2).mono ?_;rintro e w2 ⟨rfl,hu2⟩;have UW:=Qh (U1.out.trans hu2);have hu3:=UW.out;clear hu1 hu2;go_wp2;clear hu3
  go_loopg [3,19] l.length (fun gk s j wr=>∃(k:Nat) (sb:ByteArray),k+gk=l.length∧j= .int .i64 (k:Int)∧s= .string sb∧Hid (sb=⟨(ZD i true (l.take k)).toArray⟩)∧sb.size≤23+71*k∧Upd No wb wr)
  case atStart=>exact⟨0,_,by omega,rfl,rfl,Qh (show Za i++(⟨#[32,99]⟩:ByteArray)=⟨(ZD i true (l.take 0)).toArray⟩ by unfold Za ZD;apply ByteArray.ext;simp),by rw[ByteArray.size_append];omega,UW.out⟩
  case round=>
   obtain⟨k,sb,hgk,rfl,rfl,hs,hsz,hu⟩:=hrel
   by_cases hlt:k<l.length
   ·obtain⟨ad,hAd,q0,q1,q2,q3⟩:=(HH.out _ hu).at_ hlt;obtain⟨x,hx⟩:∃x,l[k]=x:=⟨_,rfl⟩;rw[hx]at q0 q1 q2 q3;subst hAd;have HS:=Qh (show sb++(⟨#[32]⟩++Zl x)=⟨(ZD i true (l.take (k+1))).toArray⟩ by rw[hs.out,ZcQ i true hlt hx,Zg3]);have hxo:x.ok:=HOK.out x (hx▸List.getElem_mem hlt);have b1:(0:Int)≤(k:Int):=Qn _;have b2:(k:Int)<(l.length:Int):=by omega
    have n2:=Za1 x;have p3:¬9223372036854775807<1+(Zl x).size:=by omega
    have p4:¬9223372036854775807<sb.size+(1+(Zl x).size):=by omega
    obtain⟨zx,hzx⟩:∃zx,wr.heap.size=zx:=⟨_,rfl⟩;obtain⟨wx,hwx⟩:∃wx,wr.alloc (.cells #[.bool x.read,.int .i64 x.key,.int .i64 x.tx,.int .i64 x.nth] 58)=wx:=⟨_,rfl⟩;have ux:Upd No wr wx:=by rw[←hwx];exact(Upd.refl No wr).alloc _
    have bx:Blk wx zx 58 [.bool x.read,.int .i64 x.key,.int .i64 x.tx,.int .i64 x.nth]:=by rw[←hwx,←hzx];exact Blk.new wr _ _
    have x0:=bx.cell 0;have x1:=bx.cell 1;have x2:=bx.cell 2;have x3:=bx.cell 3;simp only[Qz,Qs]at x0 x1 x2 x3;have HT:=Qh (Zg7 wx x hxo);unfold HOp.cells at HT;have HU:=Qh (hu.trans ux);have hsz2:(sb++(⟨#[32]⟩++Zl x)).size≤23+71*(k+1):=by rw[ByteArray.size_append,ByteArray.size_append];omega
    have HZ:=Qh hsz2;clear hx hs hxo ux bx hu hsz2
    go_wp2_with fail
    refine(HT.out).mono ?_;rintro e w5 ⟨rfl,hu5⟩;have HU5:=Qh (HU.out.trans hu5);clear hu5;go_wp2
    go_roundg (gk-1)
    case measure=>omega
    case rel=>exact⟨k+1,_,by omega,by go_num,rfl,HS,HZ.out,HU5.out⟩
   ·obtain rfl:k=l.length:=by omega
    go_wp2
    go_ret
    exact⟨by rw[hs.out,List.take_length];rfl,UB.out.trans hu⟩
end
/- Digraphs:ends held against one another. -/
section
open Go.RowKit
structure DEnd where
 kind:Int
 label:Int
 node:Int
deriving DecidableEq
def DEnd.cells (e:DEnd):List Value:=[.int .i64 e.kind,.int .i64 e.label,.int .i64 e.node]
def orI:List Int→Int
 |[]=>0
 |x::l=>if x=0 then orI l else x
theorem Zhk (x:Int) (l:List Int):orI (x::l)=if x=0 then orI l else x:=rfl
def Zat (a b:DEnd):Int:=orI [Ze4 a.kind b.kind,Ze4 a.label b.label,Ze4 a.node b.node]
end
/- Digraphs:where an end stands among others. -/
section
open Go.RowKit
def DEnds (F:Nat→Prop) (w:World) (A:Option Addr) (l:List DEnd):Prop:=Recs F w A 3 (l.map DEnd.cells)
theorem DEnds.at_ {F:Nat→Prop} {w:World} {A:Option Addr} {l:List DEnd} (h:DEnds F w A l) {k:Nat} (hk:k<l.length):∃ad,A=some ad∧
  w.cell? (ad.add (k*3))=some (.int .i64 l[k].kind)∧w.cell? ⟨(ad.add (k*3)).block,(ad.add (k*3)).off+1,none⟩=some (.int .i64 l[k].label)∧
  w.cell? ⟨(ad.add (k*3)).block,(ad.add (k*3)).off+2,none⟩=some (.int .i64 l[k].node):=by
 have hk':k<(l.map DEnd.cells).length:=by simpa using hk
 obtain⟨ad,e,_,_,hc⟩:=Recs.at_ h hk';rw[List.getElem_map]at hc;exact⟨ad,e,by simpa using hc 0 _ rfl,by simpa using hc 1 _ rfl,by simpa using hc 2 _ rfl⟩
theorem DEnds.upd {F S:Nat→Prop} {w w':World} {A:Option Addr} {l:List DEnd} (h:DEnds F w A l) (k:Upd S w w') (hn:∀i,F i→¬S i):DEnds F w' A l:=Recs.upd h k hn
def Zla (l:List DEnd) (e:DEnd) (p:Nat):Prop:=p≤l.length∧∀k (hk:k<l.length),(Zat l[k] e<0↔k<p)
def ZiT (l:List DEnd) (e:DEnd) (p:Nat):Bool:=match l[p]? with|some x=>Zat x e==0|none=>false
end
/- Walks held against one another,from whichever places they begin. -/
section
open Go.RowKit
theorem Znb (w:World) (x y:Edge):Calls Try.prog 102 #[.agg x.cells.toArray,.agg y.cells.toArray] w fun e w'=>e= .returned (.bool (ltE x y))∧Upd No w w':=by
 unfold Edge.cells
 by_cases h1:x.f=y.f
 ·have b1:(x.f != y.f)=false:=by rw[h1];simp
  by_cases h2:x.k=y.k
  ·have b2:(x.k != y.k)=false:=by rw[h2];simp
   by_cases h3:x.key=y.key
   ·have b3:(x.key != y.key)=false:=by rw[h3];simp
    have H:=Qh (show ltE x y=decide (x.t<y.t) by unfold ltE;rw[if_neg (by simpa using h1),if_neg (by simpa using h2),if_neg (by simpa using h3)]);clear h1 h2 h3
    go_enter Try.func102,Try.ntmps102
    go_wp2
    go_ret
    exact⟨by rw[H.out];rfl,((Upd.refl _ _).alloc _).alloc _⟩
   ·have b3:(x.key != y.key)=true:=by rw[bne_iff_ne];exact h3
    have H:=Qh (show ltE x y=decide (x.key<y.key) by unfold ltE;rw[if_neg (by simpa using h1),if_neg (by simpa using h2),if_pos h3]);clear h1 h2 h3
    go_enter Try.func102,Try.ntmps102
    go_wp2
    go_ret
    exact⟨by rw[H.out];rfl,((Upd.refl _ _).alloc _).alloc _⟩
  ·have b2:(x.k != y.k)=true:=by rw[bne_iff_ne];exact h2
   have H:=Qh (show ltE x y=decide (x.k<y.k) by unfold ltE;rw[if_neg (by simpa using h1),if_pos h2]);clear h1 h2
   go_enter Try.func102,Try.ntmps102
   go_wp2
   go_ret
   exact⟨by rw[H.out];rfl,((Upd.refl _ _).alloc _).alloc _⟩
 ·have b1:(x.f != y.f)=true:=by rw[bne_iff_ne];exact h1
  have H:=Qh (show ltE x y=decide (x.f<y.f) by unfold ltE;rw[if_pos h1]);clear h1
  go_enter Try.func102,Try.ntmps102
  go_wp2
  go_ret
  exact⟨by rw[H.out];rfl,((Upd.refl _ _).alloc _).alloc _⟩
end
end Go.Proofs.Ytdbjokfejmgepaa
