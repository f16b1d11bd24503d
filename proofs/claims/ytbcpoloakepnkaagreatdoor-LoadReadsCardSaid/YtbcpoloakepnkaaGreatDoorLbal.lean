/- Numbers as texts: the document's digits. -/
import Derived.Test.YtbcpoloakepnkaaGreatDoorProg
import Derived.IntWalk
import Derived.Lib.SlBytesRow
import Derived.Test.YtbcpoloakepnkaaGreatDoorLbaf
namespace Go.Proofs.YtbcpoloakepnkaaGreatDoor
set_option linter.unusedVariables false
set_option linter.unusedSimpArgs false
section
open Go.RowKit
def ZI:Nat→Nat→List UInt8
 |0,_=>[]
 |f+1,u=>(if u<10 then [] else ZI f (u/10))++[UInt8.ofNat (48+u%10)]
def Zx (u:Nat):List UInt8:=ZI 20 u
def ZC (i u:Nat):List UInt8:=if i=0∨0<u then ZI (20-i) u else []
theorem Z0 {i u:Nat} (hi:i<20) (h:i=0∨0<u):ZC i u=ZC (i+1) (u/10)++[UInt8.ofNat (48+u%10)]:=by
 unfold ZC;rw[if_pos h,show 20-i=(20-(i+1))+1 by omega,ZI]
 congr 1
 by_cases hu:u<10
 ·rw[if_pos hu,if_neg (by omega)]
 ·rw[if_neg hu,if_pos (by omega)]
theorem ZZ (x:Nat):((UInt8.ofNat (48+x%10)).toNat:Int)=48+(x:Int)%10:=by
 rw[UInt8.toNat_ofNat'];omega
theorem Zam (w:World) (b o:Nat) (l:List UInt8) (cap:Nat) (hc:∀(i:Nat) (v:UInt8),l[i]? =some v→w.cell? ⟨b,o+i,none⟩=some (.int .u8 (v.toNat:Int))):
  (convert 53 9 (.slice (some ⟨b,o,none⟩) l.length cap)).run Tryz.prog w= .ok (.string ⟨l.toArray⟩) w:=by
 have h:=Lib.run_convert_whole (P:=Tryz.prog) w 53 5 9 Tryz.underlying53 Tryz.underlying5 Tryz.underlying9 b o ⟨l.toArray⟩ (fun i hi=>by
  have hi':i<l.length:=by simpa[ByteArray.size]using hi
  rw[hc i l[i] (Qg hi')];rfl) cap
 have hs:(⟨l.toArray⟩:ByteArray).size=l.length:=by simp[ByteArray.size]
 rw[hs]at h;exact h
theorem Zad (a b:List UInt8):((⟨a.toArray⟩:ByteArray)++⟨b.toArray⟩)=⟨(a++b).toArray⟩:=by
 apply ByteArray.ext
 simp
def Zaa (neg:Bool) (u:Nat):List UInt8:=if neg then 45::Zx u else Zx u
set_option maxRecDepth 100000 in
set_option maxHeartbeats 1000000 in
theorem Zca (w:World) (n:Int) (v0:Nat) (neg:Bool) (hv:v0<18446744073709551616) (hn1:neg=false→n=(v0:Int)) (hn2:neg=true→n<0∧n= -(v0:Int)) (hmin: -9223372036854775808≤n) (hmax:n≤9223372036854775807):
  Calls Tryz.prog 21 #[.int .i64 n] w fun e w'=>e= .returned (.string ⟨(Zaa neg v0).toArray⟩)∧Upd No w w':=by
 cases neg
 ·obtain rfl:=hn1 rfl;have hnn:¬((v0:Int)<0):=by omega
  have hw64:IntKind.u64.wrap (v0:Int)=(v0:Int):=by rw[IntKind.wrap_u64];omega
  have HH:=Qh (show Zaa false v0=Zx v0 from rfl);have Hv:=Qh hv;clear hn1 hn2 hv hmin
  go_enter Tryz.func21,Tryz.ntmps21
  go_wp2
  go_loopg [3,4,5] 20 (fun gk v s i wr=>∃(k x:Nat) (l:List UInt8) (sb:ByteArray),k+gk=20∧i= .int .i64 k∧v= .int .u64 (x:Int)∧s= .string sb∧Hid (sb=⟨l.toArray⟩)∧sb.size≤k∧Hid (Zx v0=ZC k x++l)∧Hid (x<10 ^ (20-k))∧Hid (x<18446744073709551616)∧Upd No w wr)
  case atStart=>exact⟨0,v0,[],⟨#[]⟩,by omega,rfl,rfl,rfl,Qh rfl,by decide,Qh (by simp[ZC,Zx]),Qh (by have:=Hv.out;simp;omega),Qh Hv.out,Upd.refl _ _⟩
  case round=>
   obtain⟨k,x,l,sb,hgk,rfl,rfl,rfl,hsb,hsz,hd,hx',hx64',hur⟩:=hrel;have hx:=hx'.out;have hx64:=hx64'.out;clear hx' hx64'
   by_cases hk:k=0∨0<x
   ·have hk20:k<20:=by
     rcases Nat.lt_or_ge k 20 with h|h
     ·exact h
     ·rw[show 20-k=0 by omega]at hx;omega
    by_cases hk0:k=0
    ·obtain⟨dg,hdg⟩:∃dg,dg=UInt8.ofNat (48+x%10):=⟨_,rfl⟩
     have hcv:(convert 53 9 (.slice (some ⟨wr.heap.size,0,none⟩) 1 1)).run Tryz.prog (wr.alloc (.cells #[.int .u8 (48+(x:Int)%10)] 5))= .ok (.string ⟨#[dg]⟩) (wr.alloc (.cells #[.int .u8 (48+(x:Int)%10)] 5)):=
      Zam (wr.alloc (.cells #[.int .u8 (48+(x:Int)%10)] 5)) wr.heap.size 0 [dg] 1 (fun i v hv=>by
       have hb:=(Blk.new wr 5 [.int .u8 (48+(x:Int)%10)]).cell (0+i);rw[hb]
       cases i with
       |zero=>simp only[Qz,Option.some.injEq]at hv;subst hv;rw[hdg,ZZ];rfl
       |succ i=>simp at hv)
     have hxk:x/10<10 ^ (20-(k+1)):=by
      rw[show 20-k=(20-(k+1))+1 by omega,Nat.pow_succ]at hx;omega
     have HS:Hid ((⟨#[dg]⟩:ByteArray)++sb=⟨(dg::l).toArray⟩):=Qh (by rw[hsb.out,show(⟨#[dg]⟩:ByteArray)=⟨[dg].toArray⟩ from rfl,Zad];rfl);have HD:Hid (Zx v0=ZC (k+1) (x/10)++(dg::l)):=Qh (by rw[hd.out,Z0 hk20 hk,hdg,List.append_assoc];rfl)
     have hdiv:IntKind.u64.wrap ((x:Int)/10)=((x/10:Nat):Int):=by
      have hx19:x<18446744073709551616:=hx64;rw[IntKind.wrap_u64];omega
     have hx10:x/10<18446744073709551616:=by omega
     have hone:(⟨#[dg]⟩:ByteArray).size=1:=rfl;have Hxk:=Qh hxk;have Hx64:=Qh hx10;clear hdg hxk hx hx64 hx10;have hkb:((k:Int)==0)=true:=by rw[beq_iff_eq];omega
     clear hk hk0;go_wp2
     go_roundg (gk-1)
     case measure=>omega
     case rel=>exact⟨k+1,x/10,dg::l,_,by omega,by go_num,by first|rfl|(rw[hdiv])|simp,rfl,HS,by rw[ByteArray.size_append,hone];omega,HD,Hxk,Hx64,hur.alloc _⟩
    ·have hx0:(0:Int)<(x:Int):=by omega
     obtain⟨dg,hdg⟩:∃dg,dg=UInt8.ofNat (48+x%10):=⟨_,rfl⟩
     have hcv:(convert 53 9 (.slice (some ⟨wr.heap.size,0,none⟩) 1 1)).run Tryz.prog (wr.alloc (.cells #[.int .u8 (48+(x:Int)%10)] 5))= .ok (.string ⟨#[dg]⟩) (wr.alloc (.cells #[.int .u8 (48+(x:Int)%10)] 5)):=
      Zam (wr.alloc (.cells #[.int .u8 (48+(x:Int)%10)] 5)) wr.heap.size 0 [dg] 1 (fun i v hv=>by
       have hb:=(Blk.new wr 5 [.int .u8 (48+(x:Int)%10)]).cell (0+i);rw[hb]
       cases i with
       |zero=>simp only[Qz,Option.some.injEq]at hv;subst hv;rw[hdg,ZZ];rfl
       |succ i=>simp at hv)
     have hxk:x/10<10 ^ (20-(k+1)):=by
      rw[show 20-k=(20-(k+1))+1 by omega,Nat.pow_succ]at hx;omega
     have HS:Hid ((⟨#[dg]⟩:ByteArray)++sb=⟨(dg::l).toArray⟩):=Qh (by rw[hsb.out,show(⟨#[dg]⟩:ByteArray)=⟨[dg].toArray⟩ from rfl,Zad];rfl);have HD:Hid (Zx v0=ZC (k+1) (x/10)++(dg::l)):=Qh (by rw[hd.out,Z0 hk20 hk,hdg,List.append_assoc];rfl)
     have hdiv:IntKind.u64.wrap ((x:Int)/10)=((x/10:Nat):Int):=by
      have hx19:x<18446744073709551616:=hx64;rw[IntKind.wrap_u64];omega
     have hx10:x/10<18446744073709551616:=by omega
     have hone:(⟨#[dg]⟩:ByteArray).size=1:=rfl;have Hxk:=Qh hxk;have Hx64:=Qh hx10;clear hdg hxk hx hx64 hx10;have hkb:((k:Int)==0)=false:=by rw[beq_eq_false_iff_ne];omega
     clear hk hk0;go_wp2
     go_roundg (gk-1)
     case measure=>omega
     case rel=>exact⟨k+1,x/10,dg::l,_,by omega,by go_num,by first|rfl|(rw[hdiv])|simp,rfl,HS,by rw[ByteArray.size_append,hone];omega,HD,Hxk,Hx64,hur.alloc _⟩
   ·have hkb:((k:Int)==0)=false:=by rw[beq_eq_false_iff_ne];omega
    have hx0:¬(0:Int)<(x:Int):=by omega
    have hx1:x=0:=by omega
    have HF:=Qh (show sb=⟨(Zaa false v0).toArray⟩ by
     rw[HH.out,hd.out,hsb.out];unfold ZC;rw[if_neg hk];rfl)
    clear hx hx64 hk hx1;go_wp2
    go_ret
    exact⟨by rw[←HF.out];rfl,hur⟩
 ·obtain⟨hneg,hnv⟩:=hn2 rfl;have hwn:IntKind.u64.wrap n=18446744073709551616-(v0:Int):=by rw[IntKind.wrap_u64];omega
  have hwz:IntKind.u64.wrap (-(18446744073709551616-(v0:Int)))=(v0:Int):=by rw[IntKind.wrap_u64];omega
  have HH:=Qh (show Zaa true v0=45::Zx v0 from rfl);have Hv:=Qh hv;clear hn1 hn2 hv hmin hnv
  go_enter Tryz.func21,Tryz.ntmps21
  go_wp2
  go_loopg [3,4,5] 20 (fun gk v s i wr=>∃(k x:Nat) (l:List UInt8) (sb:ByteArray),k+gk=20∧i= .int .i64 k∧v= .int .u64 (x:Int)∧s= .string sb∧Hid (sb=⟨l.toArray⟩)∧sb.size≤k∧Hid (Zx v0=ZC k x++l)∧Hid (x<10 ^ (20-k))∧Hid (x<18446744073709551616)∧Upd No w wr)
  case atStart=>exact⟨0,v0,[],⟨#[]⟩,by omega,rfl,by first|rfl|(rw[hwz]),rfl,Qh rfl,by decide,Qh (by simp[ZC,Zx]),Qh (by have:=Hv.out;simp;omega),Qh Hv.out,Upd.refl _ _⟩
  case round=>
   obtain⟨k,x,l,sb,hgk,rfl,rfl,rfl,hsb,hsz,hd,hx',hx64',hur⟩:=hrel;have hx:=hx'.out;have hx64:=hx64'.out;clear hx' hx64'
   by_cases hk:k=0∨0<x
   ·have hk20:k<20:=by
     rcases Nat.lt_or_ge k 20 with h|h
     ·exact h
     ·rw[show 20-k=0 by omega]at hx;omega
    by_cases hk0:k=0
    ·obtain⟨dg,hdg⟩:∃dg,dg=UInt8.ofNat (48+x%10):=⟨_,rfl⟩
     have hcv:(convert 53 9 (.slice (some ⟨wr.heap.size,0,none⟩) 1 1)).run Tryz.prog (wr.alloc (.cells #[.int .u8 (48+(x:Int)%10)] 5))= .ok (.string ⟨#[dg]⟩) (wr.alloc (.cells #[.int .u8 (48+(x:Int)%10)] 5)):=
      Zam (wr.alloc (.cells #[.int .u8 (48+(x:Int)%10)] 5)) wr.heap.size 0 [dg] 1 (fun i v hv=>by
       have hb:=(Blk.new wr 5 [.int .u8 (48+(x:Int)%10)]).cell (0+i);rw[hb]
       cases i with
       |zero=>simp only[Qz,Option.some.injEq]at hv;subst hv;rw[hdg,ZZ];rfl
       |succ i=>simp at hv)
     have hxk:x/10<10 ^ (20-(k+1)):=by
      rw[show 20-k=(20-(k+1))+1 by omega,Nat.pow_succ]at hx;omega
     have HS:Hid ((⟨#[dg]⟩:ByteArray)++sb=⟨(dg::l).toArray⟩):=Qh (by rw[hsb.out,show(⟨#[dg]⟩:ByteArray)=⟨[dg].toArray⟩ from rfl,Zad];rfl);have HD:Hid (Zx v0=ZC (k+1) (x/10)++(dg::l)):=Qh (by rw[hd.out,Z0 hk20 hk,hdg,List.append_assoc];rfl)
     have hdiv:IntKind.u64.wrap ((x:Int)/10)=((x/10:Nat):Int):=by
      have hx19:x<18446744073709551616:=hx64;rw[IntKind.wrap_u64];omega
     have hx10:x/10<18446744073709551616:=by omega
     have hone:(⟨#[dg]⟩:ByteArray).size=1:=rfl;have Hxk:=Qh hxk;have Hx64:=Qh hx10;clear hdg hxk hx hx64 hx10;have hkb:((k:Int)==0)=true:=by rw[beq_iff_eq];omega
     clear hk hk0;go_wp2
     go_roundg (gk-1)
     case measure=>omega
     case rel=>exact⟨k+1,x/10,dg::l,_,by omega,by go_num,by first|rfl|(rw[hdiv])|simp,rfl,HS,by rw[ByteArray.size_append,hone];omega,HD,Hxk,Hx64,hur.alloc _⟩
    ·have hx0:(0:Int)<(x:Int):=by omega
     obtain⟨dg,hdg⟩:∃dg,dg=UInt8.ofNat (48+x%10):=⟨_,rfl⟩
     have hcv:(convert 53 9 (.slice (some ⟨wr.heap.size,0,none⟩) 1 1)).run Tryz.prog (wr.alloc (.cells #[.int .u8 (48+(x:Int)%10)] 5))= .ok (.string ⟨#[dg]⟩) (wr.alloc (.cells #[.int .u8 (48+(x:Int)%10)] 5)):=
      Zam (wr.alloc (.cells #[.int .u8 (48+(x:Int)%10)] 5)) wr.heap.size 0 [dg] 1 (fun i v hv=>by
       have hb:=(Blk.new wr 5 [.int .u8 (48+(x:Int)%10)]).cell (0+i);rw[hb]
       cases i with
       |zero=>simp only[Qz,Option.some.injEq]at hv;subst hv;rw[hdg,ZZ];rfl
       |succ i=>simp at hv)
     have hxk:x/10<10 ^ (20-(k+1)):=by
      rw[show 20-k=(20-(k+1))+1 by omega,Nat.pow_succ]at hx;omega
     have HS:Hid ((⟨#[dg]⟩:ByteArray)++sb=⟨(dg::l).toArray⟩):=Qh (by rw[hsb.out,show(⟨#[dg]⟩:ByteArray)=⟨[dg].toArray⟩ from rfl,Zad];rfl);have HD:Hid (Zx v0=ZC (k+1) (x/10)++(dg::l)):=Qh (by rw[hd.out,Z0 hk20 hk,hdg,List.append_assoc];rfl)
     have hdiv:IntKind.u64.wrap ((x:Int)/10)=((x/10:Nat):Int):=by
      have hx19:x<18446744073709551616:=hx64;rw[IntKind.wrap_u64];omega
     have hx10:x/10<18446744073709551616:=by omega
     have hone:(⟨#[dg]⟩:ByteArray).size=1:=rfl;have Hxk:=Qh hxk;have Hx64:=Qh hx10;clear hdg hxk hx hx64 hx10;have hkb:((k:Int)==0)=false:=by rw[beq_eq_false_iff_ne];omega
     clear hk hk0;go_wp2
     go_roundg (gk-1)
     case measure=>omega
     case rel=>exact⟨k+1,x/10,dg::l,_,by omega,by go_num,by first|rfl|(rw[hdiv])|simp,rfl,HS,by rw[ByteArray.size_append,hone];omega,HD,Hxk,Hx64,hur.alloc _⟩
   ·have hkb:((k:Int)==0)=false:=by rw[beq_eq_false_iff_ne];omega
    have hx0:¬(0:Int)<(x:Int):=by omega
    have hx1:x=0:=by omega
    have hmz:(⟨#[45]⟩:ByteArray).size=1:=rfl
    have HF:=Qh (show(⟨#[45]⟩:ByteArray)++sb=⟨(Zaa true v0).toArray⟩ by
     rw[HH.out,hd.out,hsb.out,show(⟨#[45]⟩:ByteArray)=⟨[45].toArray⟩ from rfl,Zad];unfold ZC;rw[if_neg hk];rfl)
    clear hx hx64 hk hx1;go_wp2
    go_ret
    exact⟨by rw[←HF.out];rfl,hur⟩
end
/- The program's digits. -/
section
open Go.RowKit
def Zaw (j:Nat) (l:List UInt8):List Value:=List.replicate j (.int .u8 0)++l.map fun b=> .int .u8 (b.toNat:Int)
theorem Zbx (m:Nat) (l:List UInt8) (b:UInt8):(Zaw (m+1) l).set m (.int .u8 (b.toNat:Int))=Zaw m (b::l):=by
 unfold Zaw;rw[List.replicate_succ',List.append_assoc,List.set_append_right _ _ (by simp)];simp
theorem Zbp (m:Nat) (l:List UInt8):(Zaw (m+1) l)[m]? =some (.int .u8 0):=by
 unfold Zaw;rw[List.getElem?_append_left (by simp)];simp
theorem ZcW (j:Nat) (l:List UInt8) (i:Nat) (v:UInt8) (h:l[i]? =some v):(Zaw j l)[j+i]? =some (.int .u8 (v.toNat:Int)):=by
 unfold Zaw;rw[List.getElem?_append_right (by simp)];simp[h]
theorem Zcr (w:World) (b m n:Nat) (h:m+n=20) (hn:0<n):
  (Instr.sliceAt 114 (.pointer (some ⟨b,0,none⟩)) (some (.int .i64 (m:Int))) none none).run Tryz.prog w= .ok (.slice (some ⟨b,m,none⟩) n n) w:=by
 have ha:Tryz.prog.arrayLen 114=20:=by kernel_rfl
 have he:Tryz.prog.elem 114=5:=by kernel_rfl
 have hs:∀w:World,(sizeOf 5).run Tryz.prog w= .ok 1 w:=fun w=>by kernel_rfl
 have hu:Tryz.prog.underlying 114=some (.array (Tryz.prog.arrayLen 114) (Tryz.prog.elem 114)):=by kernel_rfl
 rw[run_sliceAt_array_l w 114 ⟨b,0,none⟩ hu .i64 (m:Int) (by omega) (by rw[ha];omega),he,hs];have h1:¬20=m:=by omega
 have h2:20-m=n:=by omega
 simp[Result.andThen,slicedAt,ha,h1,h2,Addr.add];omega
set_option maxRecDepth 100000 in
set_option maxHeartbeats 1000000 in
theorem ZaR (w:World) (v0:Nat) (hv:v0<18446744073709551616):
  Calls Tryz.prog 53 #[.int .u64 (v0:Int)] w fun e w'=>e= .returned (.string ⟨(Zx v0).toArray⟩)∧Upd No w w':=by
 have Hv:=Qh hv;clear hv
 go_enter Tryz.func53,Tryz.ntmps53
 go_wp2
 go_loopg [0,4] 20 (fun gk v i wr=>∃(k x j:Nat) (l:List UInt8),k+gk=20∧k+j=20∧l.length=k∧i= .int .i64 (j:Int)∧v= .int .u64 (x:Int)∧Blk wr w.heap.size 114 (Zaw j l)∧Hid (Zx v0=ZC k x++l)∧Hid (x<10 ^ (20-k))∧Hid (x<18446744073709551616)∧Upd No w wr)
 case atStart=>exact⟨0,v0,20,[],by omega,by omega,rfl,rfl,rfl,Blk.new w 114 (Zaw 20 []),Qh (by simp[ZC,Zx]),Qh (by have:=Hv.out;simp;omega),Qh Hv.out,(Upd.refl _ _).alloc _⟩
 case round=>
  obtain⟨k,x,j,l,hgk,hkj,hlen,rfl,rfl,hb,hd,hx',hx64',hur⟩:=hrel;have hx:=hx'.out;have hx64:=hx64'.out;clear hx' hx64'
  by_cases hk:k=0∨0<x
  ·have hk20:k<20:=by
    rcases Nat.lt_or_ge k 20 with h|h
    ·exact h
    ·rw[show 20-k=0 by omega]at hx;omega
   obtain⟨m,rfl⟩:∃m,j=m+1:=⟨j-1,by omega⟩
   by_cases hk0:k=0
   ·obtain⟨dg,hdg⟩:∃dg,dg=UInt8.ofNat (48+x%10):=⟨_,rfl⟩;have hdi:(48:Int)+(x:Int)%10=(dg.toNat:Int):=by rw[hdg,ZZ]
    have hc0:wr.cell? ⟨w.heap.size,m,none⟩=some (.int .u8 0):=(hb.cell m).trans (Zbp m l);have hf0:wr.frozen? ⟨w.heap.size,m,none⟩=false:=hb.free m;have hb':=hb.set_ m (.int .u8 (dg.toNat:Int));rw[Zbx]at hb';have hu':=hur.setCell (p:=⟨w.heap.size,m,none⟩) (.inr (Nat.le_refl _)) (.int .u8 (dg.toNat:Int))
    have hxk:x/10<10 ^ (20-(k+1)):=by
     rw[show 20-k=(20-(k+1))+1 by omega,Nat.pow_succ]at hx;omega
    have HD:Hid (Zx v0=ZC (k+1) (x/10)++(dg::l)):=Qh (by rw[hd.out,Z0 hk20 hk,hdg,List.append_assoc];rfl);have hx10:x/10<18446744073709551616:=by omega
    have hdv:IntKind.u64.wrap ((x:Int)/10)=((x/10:Nat):Int):=by
     rw[IntKind.wrap_u64];omega
    have Hxk:=Qh hxk;have Hx64:=Qh hx10;have hm1:((m+1:Nat):Int)-1=(m:Int):=by omega
    have hm20:(m:Int)<20:=by omega
    clear hdg hxk hx hx64 hx10;obtain rfl:m=19:=by omega
    subst hk0;clear hk;go_wp2
    go_roundg (gk-1)
    case measure=>omega
    case rel=>exact⟨0+1,x/10,19,dg::l,by omega,by omega,by simp[hlen],rfl,by first|rfl|(rw[hdv]),hb',HD,Hxk,Hx64,hu'⟩
   ·have hx0:(0:Int)<(x:Int):=by omega
    obtain⟨dg,hdg⟩:∃dg,dg=UInt8.ofNat (48+x%10):=⟨_,rfl⟩;have hdi:(48:Int)+(x:Int)%10=(dg.toNat:Int):=by rw[hdg,ZZ]
    have hc0:wr.cell? ⟨w.heap.size,m,none⟩=some (.int .u8 0):=(hb.cell m).trans (Zbp m l);have hf0:wr.frozen? ⟨w.heap.size,m,none⟩=false:=hb.free m;have hb':=hb.set_ m (.int .u8 (dg.toNat:Int));rw[Zbx]at hb';have hu':=hur.setCell (p:=⟨w.heap.size,m,none⟩) (.inr (Nat.le_refl _)) (.int .u8 (dg.toNat:Int))
    have hxk:x/10<10 ^ (20-(k+1)):=by
     rw[show 20-k=(20-(k+1))+1 by omega,Nat.pow_succ]at hx;omega
    have HD:Hid (Zx v0=ZC (k+1) (x/10)++(dg::l)):=Qh (by rw[hd.out,Z0 hk20 hk,hdg,List.append_assoc];rfl);have hx10:x/10<18446744073709551616:=by omega
    have hdv:IntKind.u64.wrap ((x:Int)/10)=((x/10:Nat):Int):=by
     rw[IntKind.wrap_u64];omega
    have Hxk:=Qh hxk;have Hx64:=Qh hx10;have hm1:((m+1:Nat):Int)-1=(m:Int):=by omega
    have hm20:(m:Int)<20:=by omega
    clear hdg hxk hx hx64 hx10;have hkb:((m:Int)+1==20)=false:=by rw[beq_eq_false_iff_ne];omega
    clear hk hk0;go_wp2
    go_roundg (gk-1)
    case measure=>omega
    case rel=>exact⟨k+1,x/10,m,dg::l,by omega,by omega,by simp[hlen],by go_num,by first|rfl|(rw[hdv]),hb',HD,Hxk,Hx64,hu'⟩
  ·have hj20:((j:Int)==20)=false:=by rw[beq_eq_false_iff_ne];omega
   have hx0:¬(0:Int)<(x:Int):=by omega
   have hx1:x=0:=by omega
   have hsl:=Zcr wr w.heap.size j k (by omega) (by omega);have hcv:=Zam wr w.heap.size j l k (fun i v hv=>(hb.cell (j+i)).trans (ZcW j l i v hv));rw[hlen]at hcv
   have HF:=Qh (show l=Zx v0 by
    rw[hd.out];unfold ZC;rw[if_neg hk];rfl)
   clear hx hx64 hk hx1;go_wp2
   go_ret
   exact⟨by rw[←HF.out];rfl,hur⟩
end
/- A number's text:the program's,and the document's;a kind's word. -/
section
open Go.RowKit
def Zc (n:Int):List UInt8:=Zaa (decide (n<0)) n.natAbs
theorem ZcJ (f u:Nat):(ZI f u).length≤f:=by
 induction f generalizing u with
 |zero=>simp[ZI]
 |succ f ih=>
  unfold ZI;have:=ih (u/10)
  split<;>simp<;>omega
theorem ZbE (u:Nat):(Zx u).length≤20:=ZcJ 20 u
theorem Zaj (n:Int):(Zc n).length≤21:=by
 unfold Zc Zaa;have:=ZbE n.natAbs
 split<;>simp<;>omega
set_option maxRecDepth 100000 in
theorem Zet (w:World) (n:Int) (h1: -9223372036854775808≤n) (h2:n≤9223372036854775807):
  Calls Tryz.prog 21 #[.int .i64 n] w fun e w'=>e= .returned (.string ⟨(Zc n).toArray⟩)∧Upd No w w':=
 Zca w n n.natAbs (decide (n<0)) (by omega) (fun h=>by have:=of_decide_eq_false h;omega) (fun h=>by have:=of_decide_eq_true h;omega) h1 h2
set_option maxRecDepth 100000 in
set_option maxHeartbeats 1000000 in
theorem Zev (w:World) (n:Int) (h1: -9223372036854775808≤n) (h2:n≤9223372036854775807):
  Calls Tryz.prog 36 #[.int .i64 n] w fun e w'=>e= .returned (.string ⟨(Zc n).toArray⟩)∧Upd No w w':=by
 obtain⟨v0,hv0⟩:∃v0,v0=n.natAbs:=⟨_,rfl⟩;have hv:v0<18446744073709551616:=by omega
 by_cases hn:n<0
 ·have HF:=Qh (show Zc n=45::Zx v0 by unfold Zc;rw[decide_eq_true hn,hv0];rfl);have hwn:IntKind.u64.wrap n=18446744073709551616-(v0:Int):=by rw[IntKind.wrap_u64];omega
  have hwz:IntKind.u64.wrap (-(18446744073709551616-(v0:Int)))=(v0:Int):=by rw[IntKind.wrap_u64];omega
  have hwz2:IntKind.u64.wrap (0-(18446744073709551616-(v0:Int)))=(v0:Int):=by rw[IntKind.wrap_u64];omega
  have Hv:=Qh hv;clear hv hv0
  go_enter Tryz.func36,Tryz.ntmps36
  go_wp2_with fail
  refine(ZaR w v0 Hv.out).mono ?_;rintro e w2 ⟨rfl,hu⟩;have hmz:(⟨#[45]⟩:ByteArray).size=1:=rfl;have hl:(Zx v0).length≤20:=ZbE v0;have hls:(⟨(Zx v0).toArray⟩:ByteArray).size≤20:=by simpa[ByteArray.size]using hl
  go_wp2
  go_ret
  exact⟨by rw[HF.out,show(⟨#[45]⟩:ByteArray)=⟨[45].toArray⟩ from rfl,Zad];rfl,hu⟩
 ·have HF:=Qh (show Zc n=Zx v0 by unfold Zc;rw[decide_eq_false hn,hv0];rfl);have hnv:n=(v0:Int):=by omega
  have hwn:IntKind.u64.wrap n=(v0:Int):=by rw[IntKind.wrap_u64];omega
  have Hv:=Qh hv;clear hv hv0 hnv
  go_enter Tryz.func36,Tryz.ntmps36
  go_wp2_with fail
  refine(ZaR w v0 Hv.out).mono ?_;rintro e w2 ⟨rfl,hu⟩;go_wp2
  go_ret
  exact⟨by rw[HF.out];rfl,hu⟩
end
end Go.Proofs.YtbcpoloakepnkaaGreatDoor
