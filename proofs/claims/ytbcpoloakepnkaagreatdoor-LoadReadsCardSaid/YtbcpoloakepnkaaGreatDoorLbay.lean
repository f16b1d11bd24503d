/- Scripts out of numbers: the document's lines. -/
import Derived.Test.YtbcpoloakepnkaaGreatDoorLbax
namespace Go.Proofs.YtbcpoloakepnkaaGreatDoor
set_option linter.unusedVariables false
set_option linter.unusedSimpArgs false
section
open Go.RowKit
def Zu (l:List HOp):List UInt8:=l.flatMap fun o=>32::(Zb o).data.toList
theorem Zbn:∀l:List HOp,(Zu l).length≤71*l.length
 |[]=>by simp[Zu]
 |o::l=>by
  have h:=Zbn l;have h2:=ZM o;have e:=Zbd (Zb o);unfold Zu at*;rw[List.flatMap_cons,List.length_append,List.length_cons,List.length_cons];omega
theorem Zct (W:World) (x:BitVec 64):Calls Tryz.prog 20 #[U x,.int .i64 3] W fun e w'=>e= .returned (.int .i64 (ofD x 3))∧W=w':=Zah W x 3 (by omega) (by omega)
theorem Zes (W:World) (x:BitVec 64):Calls Tryz.prog 20 #[U x,.int .i64 4] W fun e w'=>e= .returned (.int .i64 (ofD x 4))∧W=w':=Zah W x 4 (by omega) (by omega)
theorem Zer (W:World) (x:BitVec 64):Calls Tryz.prog 20 #[U x,.int .i64 6] W fun e w'=>e= .returned (.int .i64 (ofD x 6))∧W=w':=Zah W x 6 (by omega) (by omega)
theorem Zeq (W:World) (x:BitVec 64):Calls Tryz.prog 20 #[U x,.int .i64 8] W fun e w'=>e= .returned (.int .i64 (ofD x 8))∧W=w':=Zah W x 8 (by omega) (by omega)
theorem Zao {sb:ByteArray} {t1:List UInt8} {o:HOp} {l:List HOp} (h:sb.data.toList++Zu (o::l)=t1):(sb++(⟨#[32]⟩++Zb o):ByteArray).data.toList++Zu l=t1:=by
 rw[←h];unfold Zu;simp
set_option maxRecDepth 100000 in
set_option maxHeartbeats 4000000 in
theorem Zea {nxt:BitVec 64→BitVec 64} (HX:Nx nxt) (w:World) (x:BitVec 64) (n i:Nat) (h1:1≤i) (h2:i≤1000) (hn:n≤10):
  Calls Tryz.prog 22 #[U x,.int .i64 (n:Int),.int .i64 (i:Int)] w fun e w'=>e= .returned (.string ⟨(Zu (Zj nxt i n x)).toArray⟩)∧Upd No w w':=by
 have m1:(⟨#[32]⟩:ByteArray).size=1:=rfl;have CN:=Qh (fun W y=>ZbX HX W y);have CO:=Qh (fun W y=>Zah W y i (by omega) (by omega));clear HX
 go_enter Tryz.func22,Tryz.ntmps22
 go_wp2
 go_loopg [0,1,7] (n+1) (fun gk sx sn ss wr=>∃(m:Nat) (y:BitVec 64) (sb:ByteArray),m+1=gk∧m≤n∧sx=U y∧sn= .int .i64 (m:Int)∧ss= .string sb∧Hid (sb.data.toList++Zu (Zj nxt i m y)=Zu (Zj nxt i n x))∧sb.size≤71*(n-m)∧Upd No w wr)
 case atStart=>exact⟨n,x,⟨#[]⟩,by omega,by omega,rfl,rfl,rfl,Qh rfl,by rw[Nat.sub_self];decide,Upd.refl _ _⟩
 case round=>
  obtain⟨m,y,sb,hgk,hmn,rfl,rfl,rfl,hs,hsz,hu⟩:=hrel
  cases m with
  |zero=>
   go_wp2
   go_ret
   have e:sb.data.toList=Zu (Zj nxt i n x):=by rw[←hs.out,Zj];unfold Zu;simp
   exact⟨by rw[←e];rfl,hu⟩
  |succ m=>
   have hd0:decide ((0:Int)<((m+1:Nat):Int))=true:=decide_eq_true (by omega);have hnm:((m+1:Nat):Int)=(m:Int)+1:=by omega
   have v0:=Zg (nxt y) 3;have v1:=Zi (nxt y) (k:=3) (by omega);have j0:=Zg (nxt (nxt y)) i;have j1:=Zi (nxt (nxt y)) (k:=i) (by omega);have CJ:=Qh (fun W=>CO.out W (nxt (nxt y)));have CV:=Qh (fun W=>Zct W (nxt y));have hO:=show opD nxt y i=if ofD (nxt y) 3=2∧0<ofD (nxt (nxt y)) i then ⟨true,Zv (ofD (nxt (nxt y)) i),ofD (nxt (nxt y)) i,1⟩ else ⟨decide (0<ofD (nxt y) 3),Zv (ofD (nxt (nxt y)) i),0,0⟩ from rfl;obtain⟨V,hV⟩:∃v,ofD (nxt y) 3=v:=⟨_,rfl⟩;obtain⟨j,hj⟩:∃v,ofD (nxt (nxt y)) i=v:=⟨_,rfl⟩;rw[hV]at CV v0 v1 hO;rw[hj]at CJ j0 j1 hO;have k0:=Zaf j;unfold Zv at hO k0;have HO:=Qh hO;have hvv:V=0∨V=1∨V=2:=by omega
   clear hV hj hO v0 v1
   go_wp2_with fail
   refine(CN.out _ _).mono ?_;rintro e wn1 ⟨rfl,rfl⟩
   go_wp2_with fail
   refine(CV.out _).mono ?_;rintro e wn2 ⟨rfl,rfl⟩
   go_wp2_with fail
   refine(CN.out _ _).mono ?_;rintro e wn3 ⟨rfl,rfl⟩
   go_wp2_with fail
   refine(CJ.out _).mono ?_;rintro e wn4 ⟨rfl,rfl⟩;rcases hvv with rfl|rfl|rfl
   ·have HT:=Qh (fun W=>Za0 W ⟨false,(1+j%3),0,0⟩ (Zaz _ (by omega)));unfold HOp.cells at HT;have HE:=Qh (show(sb++(⟨#[32]⟩++Zb ⟨false,(1+j%3),0,0⟩):ByteArray).data.toList++Zu (Zj nxt i m (nxt (nxt y)))=Zu (Zj nxt i n x) from Zao (by rw[←hs.out,Zj,show opD nxt y i=⟨false,(1+j%3),0,0⟩ from(by rw[HO.out,if_neg (by omega)];rfl)]));have n2:=ZM ⟨false,(1+j%3),0,0⟩;have p3:¬9223372036854775807<1+(Zb ⟨false,(1+j%3),0,0⟩).size:=by omega
    have p4:¬9223372036854775807<sb.size+(1+(Zb ⟨false,(1+j%3),0,0⟩).size):=by omega
    have hsz2:(sb++(⟨#[32]⟩++Zb ⟨false,(1+j%3),0,0⟩)).size≤71*(n-m):=by rw[ByteArray.size_append,ByteArray.size_append];omega
    have HZ:=Qh hsz2;have HUR:=Qh hu;clear hs hsz2 hu n2
    go_wp2_with fail
    refine(HT.out _).mono ?_;rintro e w5 ⟨rfl,hu5⟩;have HU5:=Qh (HUR.out.trans (((Upd.refl No wr).alloc _).trans hu5));clear hu5;go_wp2
    go_roundg (gk-1)
    case measure=>omega
    case rel=>exact⟨m,nxt (nxt y),_,by omega,by omega,rfl,by go_num,rfl,HE,HZ.out,HU5.out⟩
   ·have HT:=Qh (fun W=>Za0 W ⟨true,(1+j%3),0,0⟩ (Zaz _ (by omega)));unfold HOp.cells at HT;have HE:=Qh (show(sb++(⟨#[32]⟩++Zb ⟨true,(1+j%3),0,0⟩):ByteArray).data.toList++Zu (Zj nxt i m (nxt (nxt y)))=Zu (Zj nxt i n x) from Zao (by rw[←hs.out,Zj,show opD nxt y i=⟨true,(1+j%3),0,0⟩ from(by rw[HO.out,if_neg (by omega)];rfl)]));have n2:=ZM ⟨true,(1+j%3),0,0⟩;have p3:¬9223372036854775807<1+(Zb ⟨true,(1+j%3),0,0⟩).size:=by omega
    have p4:¬9223372036854775807<sb.size+(1+(Zb ⟨true,(1+j%3),0,0⟩).size):=by omega
    have hsz2:(sb++(⟨#[32]⟩++Zb ⟨true,(1+j%3),0,0⟩)).size≤71*(n-m):=by rw[ByteArray.size_append,ByteArray.size_append];omega
    have HZ:=Qh hsz2;have HUR:=Qh hu;clear hs hsz2 hu n2
    go_wp2_with fail
    refine(HT.out _).mono ?_;rintro e w5 ⟨rfl,hu5⟩;have HU5:=Qh (HUR.out.trans (((Upd.refl No wr).alloc _).trans hu5));clear hu5;go_wp2
    go_roundg (gk-1)
    case measure=>omega
    case rel=>exact⟨m,nxt (nxt y),_,by omega,by omega,rfl,by go_num,rfl,HE,HZ.out,HU5.out⟩
   ·by_cases hjp:0<j
    ·have hjd:decide (0<j)=true:=decide_eq_true hjp;have HT:=Qh (fun W=>Za0 W ⟨true,(1+j%3),j,1⟩ (Zaz _ (by omega)));unfold HOp.cells at HT;have HE:=Qh (show(sb++(⟨#[32]⟩++Zb ⟨true,(1+j%3),j,1⟩):ByteArray).data.toList++Zu (Zj nxt i m (nxt (nxt y)))=Zu (Zj nxt i n x) from Zao (by rw[←hs.out,Zj,show opD nxt y i=⟨true,(1+j%3),j,1⟩ from(by rw[HO.out,if_pos ⟨rfl,hjp⟩])]));have n2:=ZM ⟨true,(1+j%3),j,1⟩;have p3:¬9223372036854775807<1+(Zb ⟨true,(1+j%3),j,1⟩).size:=by omega
     have p4:¬9223372036854775807<sb.size+(1+(Zb ⟨true,(1+j%3),j,1⟩).size):=by omega
     have hsz2:(sb++(⟨#[32]⟩++Zb ⟨true,(1+j%3),j,1⟩)).size≤71*(n-m):=by rw[ByteArray.size_append,ByteArray.size_append];omega
     have HZ:=Qh hsz2;have HUR:=Qh hu;clear hs hsz2 hu n2
     go_wp2_with fail
     refine(HT.out _).mono ?_;rintro e w5 ⟨rfl,hu5⟩;have HU5:=Qh (HUR.out.trans (((Upd.refl No wr).alloc _).trans hu5));clear hu5;go_wp2
     go_roundg (gk-1)
     case measure=>omega
     case rel=>exact⟨m,nxt (nxt y),_,by omega,by omega,rfl,by go_num,rfl,HE,HZ.out,HU5.out⟩
    ·have hjd:decide (0<j)=false:=decide_eq_false hjp;have HT:=Qh (fun W=>Za0 W ⟨true,(1+j%3),0,0⟩ (Zaz _ (by omega)));unfold HOp.cells at HT;have HE:=Qh (show(sb++(⟨#[32]⟩++Zb ⟨true,(1+j%3),0,0⟩):ByteArray).data.toList++Zu (Zj nxt i m (nxt (nxt y)))=Zu (Zj nxt i n x) from Zao (by rw[←hs.out,Zj,show opD nxt y i=⟨true,(1+j%3),0,0⟩ from(by rw[HO.out,if_neg (by omega)];rfl)]));have n2:=ZM ⟨true,(1+j%3),0,0⟩;have p3:¬9223372036854775807<1+(Zb ⟨true,(1+j%3),0,0⟩).size:=by omega
     have p4:¬9223372036854775807<sb.size+(1+(Zb ⟨true,(1+j%3),0,0⟩).size):=by omega
     have hsz2:(sb++(⟨#[32]⟩++Zb ⟨true,(1+j%3),0,0⟩)).size≤71*(n-m):=by rw[ByteArray.size_append,ByteArray.size_append];omega
     have HZ:=Qh hsz2;have HUR:=Qh hu;clear hs hsz2 hu n2
     go_wp2_with fail
     refine(HT.out _).mono ?_;rintro e w5 ⟨rfl,hu5⟩;have HU5:=Qh (HUR.out.trans (((Upd.refl No wr).alloc _).trans hu5));clear hu5;go_wp2
     go_roundg (gk-1)
     case measure=>omega
     case rel=>exact⟨m,nxt (nxt y),_,by omega,by omega,rfl,by go_num,rfl,HE,HZ.out,HU5.out⟩
end
end Go.Proofs.YtbcpoloakepnkaaGreatDoor
