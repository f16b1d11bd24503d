/- Scripts out of numbers: what is drawn. -/
import Derived.Test.YtbcpoloakepnkaaGreatDoorProg
import Derived.Laws.StructEq
import Derived.Test.YtbcpoloakepnkaaGreatDoorLbaf
import Derived.Test.YtbcpoloakepnkaaGreatDoorLbag
import Derived.Test.YtbcpoloakepnkaaGreatDoorLbai
namespace Go.Proofs.YtbcpoloakepnkaaGreatDoor
set_option linter.unusedVariables false
set_option linter.unusedSimpArgs false
section
open Go.RowKit
def Nx (nxt:BitVec 64→BitVec 64):Prop:=∀x,nxt x=Bv.mix (x+1#64)
def ofD (x:BitVec 64) (k:Nat):Int:=((x.toNat%k:Nat):Int)
theorem Zg (x:BitVec 64) (k:Nat):0≤ofD x k:=Qn _
theorem Zi (x:BitVec 64) {k:Nat} (hk:0<k):ofD x k<(k:Int):=by
 have:=Nat.mod_lt x.toNat hk;unfold ofD;omega
theorem Zd5 (x:BitVec 64):IntKind.u64.wrap (u x+1)=u (x+1#64):=Bv.addv x 1#64
theorem ZcP (x:BitVec 64) (k:Nat):(u x).tmod (k:Int)=ofD x k:=by
 unfold u ofD;exact(Int.ofNat_tmod x.toNat k).symm
set_option maxRecDepth 100000 in
theorem Zap {nxt:BitVec 64→BitVec 64} (HX:Nx nxt) (W:World) (g:Nat) (x:BitVec 64) (k:Nat) (hk:0<k) (hk2:k≤1000000) (hb:Blk W g 44 [U x]):
  Calls Tryz.prog 27 #[.pointer (some ⟨g,0,none⟩),.int .i64 (k:Int)] W fun e w'=>e= .returned (.int .i64 (ofD (nxt x) k))∧Blk w' g 44 [U (nxt x)]∧Upd (One g) W w':=by
 have c0:=hb.cell 0;have f0:=hb.free 0;simp only[Qz]at c0;have CM:=Qh (fun w=>Zbg (x+1#64) w);rw[←HX]at CM;have hw:=Zd5 x;unfold U at c0 CM;have hk3:IntKind.u64.wrap (k:Int)=(k:Int):=by rw[IntKind.wrap_u64];omega
 have HB:=Qh hb;clear hb
 go_enter Tryz.func27,Tryz.ntmps27
 go_wp2_with fail
 refine(CM.out _).mono ?_;rintro e w1 ⟨rfl,rfl⟩
 have hd:wrap64 ((u (nxt x)).tmod (k:Int))=ofD (nxt x) k:=by
  rw[ZcP];have h1:=Zg (nxt x) k;have h2:=Zi (nxt x) hk;exact IntWalk.wrap64_in (ofD (nxt x) k) (by omega)
 go_wp2
 go_ret
 exact⟨by rw[←hd];rfl,HB.out.set_ 0 _,(Upd.refl _ _).setOne 0 _⟩
theorem Za9 {nxt:BitVec 64→BitVec 64} (HX:Nx nxt) (W:World) (g:Nat) (x:BitVec 64) (hb:Blk W g 44 [U x]):
  Calls Tryz.prog 27 #[.pointer (some ⟨g,0,none⟩),.int .i64 3] W fun e w'=>e= .returned (.int .i64 (ofD (nxt x) 3))∧Blk w' g 44 [U (nxt x)]∧Upd (One g) W w':=Zap HX W g x 3 (by omega) (by omega) hb
theorem ZdW {nxt:BitVec 64→BitVec 64} (HX:Nx nxt) (W:World) (g:Nat) (x:BitVec 64) (hb:Blk W g 44 [U x]):
  Calls Tryz.prog 27 #[.pointer (some ⟨g,0,none⟩),.int .i64 4] W fun e w'=>e= .returned (.int .i64 (ofD (nxt x) 4))∧Blk w' g 44 [U (nxt x)]∧Upd (One g) W w':=Zap HX W g x 4 (by omega) (by omega) hb
theorem Zch {nxt:BitVec 64→BitVec 64} (HX:Nx nxt) (W:World) (g:Nat) (x:BitVec 64) (hb:Blk W g 44 [U x]):
  Calls Tryz.prog 27 #[.pointer (some ⟨g,0,none⟩),.int .i64 6] W fun e w'=>e= .returned (.int .i64 (ofD (nxt x) 6))∧Blk w' g 44 [U (nxt x)]∧Upd (One g) W w':=Zap HX W g x 6 (by omega) (by omega) hb
theorem ZdV {nxt:BitVec 64→BitVec 64} (HX:Nx nxt) (W:World) (g:Nat) (x:BitVec 64) (hb:Blk W g 44 [U x]):
  Calls Tryz.prog 27 #[.pointer (some ⟨g,0,none⟩),.int .i64 8] W fun e w'=>e= .returned (.int .i64 (ofD (nxt x) 8))∧Blk w' g 44 [U (nxt x)]∧Upd (One g) W w':=Zap HX W g x 8 (by omega) (by omega) hb
set_option maxRecDepth 100000 in
theorem ZbX {nxt:BitVec 64→BitVec 64} (HX:Nx nxt) (W:World) (x:BitVec 64):Calls Tryz.prog 18 #[U x] W fun e w'=>e= .returned (U (nxt x))∧W=w':=by
 have CM:=Qh (fun w=>Zax (x+1#64) w);rw[←HX]at CM;have hw:=Zd5 x;unfold U at CM ⊢
 go_enter Tryz.func18,Tryz.ntmps18
 go_wp2_with fail
 refine(CM.out _).mono ?_;rintro e w1 ⟨rfl,rfl⟩;go_wp2
 go_ret
 exact⟨rfl,rfl⟩
set_option maxRecDepth 100000 in
theorem Zah (W:World) (x:BitVec 64) (k:Nat) (hk:0<k) (hk2:k≤1000000):Calls Tryz.prog 20 #[U x,.int .i64 (k:Int)] W fun e w'=>e= .returned (.int .i64 (ofD x k))∧W=w':=by
 have hk3:IntKind.u64.wrap (k:Int)=(k:Int):=by rw[IntKind.wrap_u64];omega
 have hd:wrap64 ((u x).tmod (k:Int))=ofD x k:=by
  rw[ZcP];have h1:=Zg x k;have h2:=Zi x hk;exact IntWalk.wrap64_in (ofD x k) (by omega)
 unfold U
 go_enter Tryz.func20,Tryz.ntmps20
 go_wp2
 go_ret
 exact⟨by rw[←hd];rfl,rfl⟩
def Zv (i:Int):Int:=1+i%3
theorem Zaf (i:Int):1≤Zv i∧Zv i≤3:=by unfold Zv;omega
set_option maxRecDepth 100000 in
theorem ZdN (W:World) (i:Int) (h0:0≤i) (h1:i≤1000000):Calls Tryz.prog 57 #[.int .i64 i] W fun e w'=>e= .returned (.int .i64 (Zv i))∧W=w':=by
 have e1:i.tmod 3=i%3:=Int.tmod_eq_emod_of_nonneg h0;have e2:wrap64 (1+i.tmod 3)=Zv i:=by rw[e1];exact IntWalk.wrap64_in _ (by omega)
 have e3:IntKind.i64.wrap (1+i.tmod 3)=Zv i:=by rw[IntWalk.i64_left];exact e2
 go_enter Tryz.func57,Tryz.ntmps57
 go_wp2
 go_ret
 exact⟨rfl,rfl⟩
end
/- Edges:how lists of them lie in memory;when two are one. -/
section
open Go.RowKit
structure Edge where
 f:Int
 t:Int
 k:Int
 key:Int
deriving DecidableEq
def Edge.cells (e:Edge):List Value:=[.int .i64 e.f,.int .i64 e.t,.int .i64 e.k,.int .i64 e.key]
def Walk (F:Nat→Prop) (w:World) (A:Option Addr) (l:List Edge):Prop:=Recs F w A 4 (l.map Edge.cells)
theorem Walk.at_ {F:Nat→Prop} {w:World} {A:Option Addr} {l:List Edge} (h:Walk F w A l) {k:Nat} (hk:k<l.length):∃ad,A=some ad∧
  w.cell? (ad.add (k*4))=some (.int .i64 l[k].f)∧w.cell? ⟨(ad.add (k*4)).block,(ad.add (k*4)).off+1,none⟩=some (.int .i64 l[k].t)∧
  w.cell? ⟨(ad.add (k*4)).block,(ad.add (k*4)).off+2,none⟩=some (.int .i64 l[k].k)∧w.cell? ⟨(ad.add (k*4)).block,(ad.add (k*4)).off+3,none⟩=some (.int .i64 l[k].key):=by
 have hk':k<(l.map Edge.cells).length:=by simpa using hk
 obtain⟨ad,e,_,_,hc⟩:=Recs.at_ h hk';rw[List.getElem_map]at hc;exact⟨ad,e,by simpa using hc 0 _ rfl,by simpa using hc 1 _ rfl,by simpa using hc 2 _ rfl,by simpa using hc 3 _ rfl⟩
theorem Walk.upd {F S:Nat→Prop} {w w':World} {A:Option Addr} {l:List Edge} (h:Walk F w A l) (k:Upd S w w') (hn:∀i,F i→¬S i):Walk F w' A l:=Recs.upd h k hn
end
/- Levels:which level bars which phenomenon;the words. -/
section
open Go.RowKit
def Zb0 (p:Int):ByteArray:=if p=1 then ⟨#[71,48]⟩ else if p=2 then ⟨#[71,49,97]⟩ else if p=3 then ⟨#[71,49,98]⟩ else if p=4 then ⟨#[71,49,99]⟩ else if p=5 then ⟨#[71,50,45,105,116,101,109]⟩ else ⟨#[]⟩
def Zk (p:Int):ByteArray:=if p=1 then ⟨#[103,48]⟩ else if p=2 then ⟨#[103,49,97]⟩ else if p=3 then ⟨#[103,49,98]⟩ else if p=4 then ⟨#[103,49,99]⟩ else if p=5 then ⟨#[103,50]⟩ else ⟨#[]⟩
set_option maxRecDepth 100000 in
theorem Zeh (w:World) (p:Int):Calls Tryz.prog 55 #[.int .i64 p] w fun e w'=>e= .returned (.tuple #[.string (Zb0 p),.string (Zk p)])∧w=w':=by
 by_cases p1:p=1
 ·subst p1
  go_enter Tryz.func55,Tryz.ntmps55
  go_wp2
  go_ret2
  exact⟨rfl,rfl⟩
 by_cases p2:p=2
 ·subst p2
  go_enter Tryz.func55,Tryz.ntmps55
  go_wp2
  go_ret2
  exact⟨rfl,rfl⟩
 by_cases p3:p=3
 ·subst p3
  go_enter Tryz.func55,Tryz.ntmps55
  go_wp2
  go_ret2
  exact⟨rfl,rfl⟩
 by_cases p4:p=4
 ·subst p4
  go_enter Tryz.func55,Tryz.ntmps55
  go_wp2
  go_ret2
  exact⟨rfl,rfl⟩
 by_cases p5:p=5
 ·subst p5
  go_enter Tryz.func55,Tryz.ntmps55
  go_wp2
  go_ret2
  exact⟨rfl,rfl⟩
 have q1:(p==1)=false:=by simpa using p1
 have q2:(p==2)=false:=by simpa using p2
 have q3:(p==3)=false:=by simpa using p3
 have q4:(p==4)=false:=by simpa using p4
 have q5:(p==5)=false:=by simpa using p5
 rw[show Zb0 p=⟨#[]⟩ by unfold Zb0;rw[if_neg p1,if_neg p2,if_neg p3,if_neg p4,if_neg p5],show Zk p=⟨#[]⟩ by unfold Zk;rw[if_neg p1,if_neg p2,if_neg p3,if_neg p4,if_neg p5]]
 go_enter Tryz.func55,Tryz.ntmps55
 go_wp2
 go_ret2
 exact⟨rfl,rfl⟩
theorem Zb2 (w:World) (p:Int):Calls Tryz.prog 38 #[.int .i64 p] w fun e w'=>e= .returned (.string (Zk p))∧w=w':=by
 have C:=Qh (Zeh w p)
 go_enter Tryz.func38,Tryz.ntmps38
 go_wp2_with fail
 refine(C.out).mono ?_;rintro e w1 ⟨rfl,rfl⟩;go_wp2
 go_ret
 exact⟨rfl,rfl⟩
set_option maxRecDepth 100000 in
theorem ZcZ (w:World) (p:Int):Calls Tryz.prog 24 #[.int .i64 p] w fun e w'=>e= .returned (.string (Zk p))∧Upd No w w':=by
 by_cases h1:p<0
 ·have d1:decide (p<0)=true:=decide_eq_true h1;rw[show Zk p=⟨#[]⟩ by unfold Zk;rw[if_neg (by omega),if_neg (by omega),if_neg (by omega),if_neg (by omega),if_neg (by omega)]]
  go_enter Tryz.func24,Tryz.ntmps24
  go_wp2
  go_ret
  exact⟨rfl,(Upd.refl No w).alloc _⟩
 by_cases h2:5<p
 ·have d1:decide (p<0)=false:=decide_eq_false h1;have d2:decide (5<p)=true:=decide_eq_true h2;rw[show Zk p=⟨#[]⟩ by unfold Zk;rw[if_neg (by omega),if_neg (by omega),if_neg (by omega),if_neg (by omega),if_neg (by omega)]]
  go_enter Tryz.func24,Tryz.ntmps24
  go_wp2
  go_ret
  exact⟨rfl,(Upd.refl No w).alloc _⟩
 have hp:p=0∨p=1∨p=2∨p=3∨p=4∨p=5:=by omega
 clear h1 h2;rcases hp with rfl|rfl|rfl|rfl|rfl|rfl
 ·go_enter Tryz.func24,Tryz.ntmps24
  go_wp2
  go_ret
  exact⟨rfl,(Upd.refl No w).alloc _⟩
 ·go_enter Tryz.func24,Tryz.ntmps24
  go_wp2
  go_ret
  exact⟨rfl,(Upd.refl No w).alloc _⟩
 ·go_enter Tryz.func24,Tryz.ntmps24
  go_wp2
  go_ret
  exact⟨rfl,(Upd.refl No w).alloc _⟩
 ·go_enter Tryz.func24,Tryz.ntmps24
  go_wp2
  go_ret
  exact⟨rfl,(Upd.refl No w).alloc _⟩
 ·go_enter Tryz.func24,Tryz.ntmps24
  go_wp2
  go_ret
  exact⟨rfl,(Upd.refl No w).alloc _⟩
 ·go_enter Tryz.func24,Tryz.ntmps24
  go_wp2
  go_ret
  exact⟨rfl,(Upd.refl No w).alloc _⟩
end
/- Levels:the strongest level;the phenomenon of a code. -/
section
open Go.RowKit
theorem Zb7 {a b:ByteArray} (h:¬a=b):(a.toList==b.toList)=false:=by
 rw[beq_eq_false_iff_ne,Go.ByteArray.toList_eq,Go.ByteArray.toList_eq];intro e;exact h (ByteArray.ext (Array.toList_inj.1 e))
def Zay (s:ByteArray):Nat→Nat→Int
 |0,_=>0
 |n+1,i=>if Zk (i:Int)=s then (i:Int) else Zay s n (i+1)
def ZbY (s:ByteArray):Int:=Zay s 5 1
set_option maxRecDepth 100000 in
theorem Zem (w:World) (s:ByteArray):Calls Tryz.prog 46 #[.string s] w fun e w'=>e= .returned (.int .i64 (ZbY s))∧Upd No w w':=by
 have HC:=Qh (fun W p=>Zb2 W p);obtain⟨R,hR⟩:∃R,ZbY s=R:=⟨_,rfl⟩;have HR:=Qh (show Zay s 5 1=R from hR);rw[hR];clear hR
 go_enter Tryz.func46,Tryz.ntmps46
 go_wp2
 go_loopg [3] 5 (fun gk i wr=>∃k:Nat,k+gk=5∧i= .int .i64 (((k+1:Nat):Int))∧Hid (Zay s gk (k+1)=R)∧Hid (Upd No w wr))
 case atStart=>exact⟨0,by omega,rfl,HR,Qh (Upd.refl _ _)⟩
 case round=>
  clear HR;obtain⟨k,hgk,rfl,hs,hu⟩:=hrel
  by_cases hk:k<5
  ·obtain⟨g1,rfl⟩:∃g1,gk=g1+1:=⟨gk-1,by omega⟩;have hst:=hs.out;unfold Zay at hst;have HPK:=Qh (show Zay s g1 (k+1+1)=Zay s g1 (k+1+1) from rfl);obtain⟨PK,hPK⟩:∃PK:Int,((k+1:Nat):Int)=PK:=⟨_,rfl⟩;have HP:=Qh hPK;rw[hPK]at hst ⊢;have l1:PK<6:=by omega
   have l2:PK≤5:=by omega
   have pw:IntKind.i64.wrap (PK+1)=PK+1:=IntWalk.i64_in _ (by omega);have CC:=Qh (HC.out wr PK);obtain⟨cv,hcv⟩:∃cv,Zk PK=cv:=⟨_,rfl⟩;rw[hcv]at hst CC;clear hcv hPK hs HPK
   by_cases hc:cv=s
   ·subst hc;rw[if_pos rfl]at hst;have HST:=Qh hst;clear hst
    go_wp2_with fail
    refine(CC.out).mono ?_;rintro e w3 ⟨rfl,rfl⟩;go_wp2
    go_ret
    exact⟨by rw[←HST.out];rfl,hu.out⟩
   ·rw[if_neg hc]at hst;have HST:=Qh hst;have hce:(cv.toList==s.toList)=false:=Zb7 hc;clear hst
    go_wp2_with fail
    refine(CC.out).mono ?_;rintro e w3 ⟨rfl,rfl⟩;go_wp2
    go_roundg g1
    case measure=>omega
    case rel=>exact⟨k+1,by omega,by have:=HP.out;simp;omega,HST,Qh (hu.out)⟩
  ·obtain rfl:k=5:=by omega
   obtain rfl:gk=0:=by omega
   have HST:=Qh (show 0=R from hs.out);clear hs;go_wp2
   go_ret
   exact⟨by rw[←HST.out];rfl,hu.out⟩
end
end Go.Proofs.YtbcpoloakepnkaaGreatDoor
