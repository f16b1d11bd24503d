/- Numbers as texts: the document's digits. -/
import Derived.Test.YtdbjokfejmgepaaProg
import Derived.IntWalk
import Derived.Lib.SlBytesRow
import Derived.Test.YtdbjokfejmgepaaRaac
namespace Go.Proofs.Ytdbjokfejmgepaa
set_option linter.unusedVariables false
set_option linter.unusedSimpArgs false
section
open Go.RowKit
def Ze1:Nat→Nat→List UInt8
 |0,_=>[]
 |f+1,u=>(if u<10 then [] else Ze1 f (u/10))++[UInt8.ofNat (48+u%10)]
def Zac (u:Nat):List UInt8:=Ze1 20 u
def Zag (i u:Nat):List UInt8:=if i=0∨0<u then Ze1 (20-i) u else []
theorem ZbG {i u:Nat} (hi:i<20) (h:i=0∨0<u):Zag i u=Zag (i+1) (u/10)++[UInt8.ofNat (48+u%10)]:=by
 unfold Zag;rw[if_pos h,show 20-i=(20-(i+1))+1 by omega,Ze1]
 congr 1
 by_cases hu:u<10
 ·rw[if_pos hu,if_neg (by omega)]
 ·rw[if_neg hu,if_pos (by omega)]
theorem ZbF (x:Nat):((UInt8.ofNat (48+x%10)).toNat:Int)=48+(x:Int)%10:=by
 rw[UInt8.toNat_ofNat'];omega
theorem ZcN (w:World) (b o:Nat) (l:List UInt8) (cap:Nat) (hc:∀(i:Nat) (v:UInt8),l[i]? =some v→w.cell? ⟨b,o+i,none⟩=some (.int .u8 (v.toNat:Int))):
  (convert 68 9 (.slice (some ⟨b,o,none⟩) l.length cap)).run Try.prog w= .ok (.string ⟨l.toArray⟩) w:=by
 have h:=Lib.run_convert_whole (P:=Try.prog) w 68 5 9 Try.underlying68 Try.underlying5 Try.underlying9 b o ⟨l.toArray⟩ (fun i hi=>by
  have hi':i<l.length:=by simpa[ByteArray.size]using hi
  rw[hc i l[i] (Qg hi')];rfl) cap
 have hs:(⟨l.toArray⟩:ByteArray).size=l.length:=by simp[ByteArray.size]
 rw[hs]at h;exact h
theorem ZaJ (a b:List UInt8):((⟨a.toArray⟩:ByteArray)++⟨b.toArray⟩)=⟨(a++b).toArray⟩:=by
 apply ByteArray.ext
 simp
def Zdx (neg:Bool) (u:Nat):List UInt8:=if neg then 45::Zac u else Zac u
set_option maxRecDepth 100000 in
set_option maxHeartbeats 1000000 in
theorem Zjj (w:World) (n:Int) (v0:Nat) (neg:Bool) (hv:v0<18446744073709551616) (hn1:neg=false→n=(v0:Int)) (hn2:neg=true→n<0∧n= -(v0:Int)) (hmin: -9223372036854775808≤n) (hmax:n≤9223372036854775807):
  Calls Try.prog 30 #[.int .i64 n] w fun e w'=>e= .returned (.string ⟨(Zdx neg v0).toArray⟩)∧Upd No w w':=by
 cases neg
 ·obtain rfl:=hn1 rfl;have hnn:¬((v0:Int)<0):=by omega
  have hw64:IntKind.u64.wrap (v0:Int)=(v0:Int):=by rw[IntKind.wrap_u64];omega
  have HH:=Qh (show Zdx false v0=Zac v0 from rfl);have Hv:=Qh hv;clear hn1 hn2 hv hmin
  go_enter Try.func30,Try.ntmps30
  go_wp2
  go_loopg [3,4,5] 20 (fun gk v s i wr=>∃(k x:Nat) (l:List UInt8) (sb:ByteArray),k+gk=20∧i= .int .i64 k∧v= .int .u64 (x:Int)∧s= .string sb∧Hid (sb=⟨l.toArray⟩)∧sb.size≤k∧Hid (Zac v0=Zag k x++l)∧Hid (x<10 ^ (20-k))∧Hid (x<18446744073709551616)∧Upd No w wr)
  case atStart=>exact⟨0,v0,[],⟨#[]⟩,by omega,rfl,rfl,rfl,Qh rfl,by decide,Qh (by simp[Zag,Zac]),Qh (by have:=Hv.out;simp;omega),Qh Hv.out,Upd.refl _ _⟩
  case round=>
   obtain⟨k,x,l,sb,hgk,rfl,rfl,rfl,hsb,hsz,hd,hx',hx64',hur⟩:=hrel;have hx:=hx'.out;have hx64:=hx64'.out;clear hx' hx64'
   by_cases hk:k=0∨0<x
   ·have hk20:k<20:=by
     rcases Nat.lt_or_ge k 20 with h|h
     ·exact h
     ·rw[show 20-k=0 by omega]at hx;omega
    by_cases hk0:k=0
    ·obtain⟨dg,hdg⟩:∃dg,dg=UInt8.ofNat (48+x%10):=⟨_,rfl⟩
     have hcv:(convert 68 9 (.slice (some ⟨wr.heap.size,0,none⟩) 1 1)).run Try.prog (wr.alloc (.cells #[.int .u8 (48+(x:Int)%10)] 5))= .ok (.string ⟨#[dg]⟩) (wr.alloc (.cells #[.int .u8 (48+(x:Int)%10)] 5)):=
      ZcN (wr.alloc (.cells #[.int .u8 (48+(x:Int)%10)] 5)) wr.heap.size 0 [dg] 1 (fun i v hv=>by
       have hb:=(Blk.new wr 5 [.int .u8 (48+(x:Int)%10)]).cell (0+i);rw[hb]
       cases i with
       |zero=>simp only[Qz,Option.some.injEq]at hv;subst hv;rw[hdg,ZbF];rfl
       |succ i=>simp at hv)
     have hxk:x/10<10 ^ (20-(k+1)):=by
      rw[show 20-k=(20-(k+1))+1 by omega,Nat.pow_succ]at hx;omega
     have HS:Hid ((⟨#[dg]⟩:ByteArray)++sb=⟨(dg::l).toArray⟩):=Qh (by rw[hsb.out,show(⟨#[dg]⟩:ByteArray)=⟨[dg].toArray⟩ from rfl,ZaJ];rfl);have HD:Hid (Zac v0=Zag (k+1) (x/10)++(dg::l)):=Qh (by rw[hd.out,ZbG hk20 hk,hdg,List.append_assoc];rfl)
     have hdiv:IntKind.u64.wrap ((x:Int)/10)=((x/10:Nat):Int):=by
      have hx19:x<18446744073709551616:=hx64;rw[IntKind.wrap_u64];omega
     have hx10:x/10<18446744073709551616:=by omega
     have hone:(⟨#[dg]⟩:ByteArray).size=1:=rfl;have Hxk:=Qh hxk;have Hx64:=Qh hx10;clear hdg hxk hx hx64 hx10;have hkb:((k:Int)==0)=true:=by rw[beq_iff_eq];omega
     clear hk hk0;go_wp2
     go_roundg (gk-1)
     case measure=>omega
     case rel=>exact⟨k+1,x/10,dg::l,_,by omega,by go_num,by first|rfl|(rw[hdiv])|simp,rfl,HS,by rw[ByteArray.size_append,hone];omega,HD,Hxk,Hx64,hur.alloc _⟩
    ·have hx0:(0:Int)<(x:Int):=by omega
     obtain⟨dg,hdg⟩:∃dg,dg=UInt8.ofNat (48+x%10):=⟨_,rfl⟩
     have hcv:(convert 68 9 (.slice (some ⟨wr.heap.size,0,none⟩) 1 1)).run Try.prog (wr.alloc (.cells #[.int .u8 (48+(x:Int)%10)] 5))= .ok (.string ⟨#[dg]⟩) (wr.alloc (.cells #[.int .u8 (48+(x:Int)%10)] 5)):=
      ZcN (wr.alloc (.cells #[.int .u8 (48+(x:Int)%10)] 5)) wr.heap.size 0 [dg] 1 (fun i v hv=>by
       have hb:=(Blk.new wr 5 [.int .u8 (48+(x:Int)%10)]).cell (0+i);rw[hb]
       cases i with
       |zero=>simp only[Qz,Option.some.injEq]at hv;subst hv;rw[hdg,ZbF];rfl
       |succ i=>simp at hv)
     have hxk:x/10<10 ^ (20-(k+1)):=by
      rw[show 20-k=(20-(k+1))+1 by omega,Nat.pow_succ]at hx;omega
     have HS:Hid ((⟨#[dg]⟩:ByteArray)++sb=⟨(dg::l).toArray⟩):=Qh (by rw[hsb.out,show(⟨#[dg]⟩:ByteArray)=⟨[dg].toArray⟩ from rfl,ZaJ];rfl);have HD:Hid (Zac v0=Zag (k+1) (x/10)++(dg::l)):=Qh (by rw[hd.out,ZbG hk20 hk,hdg,List.append_assoc];rfl)
     have hdiv:IntKind.u64.wrap ((x:Int)/10)=((x/10:Nat):Int):=by
      have hx19:x<18446744073709551616:=hx64;rw[IntKind.wrap_u64];omega
     have hx10:x/10<18446744073709551616:=by omega
     have hone:(⟨#[dg]⟩:ByteArray).size=1:=rfl;have Hxk:=Qh hxk;have Hx64:=Qh hx10;clear hdg hxk hx hx64 hx10;have hkb:((k:Int)==0)=false:=by rw[beq_eq_false_iff_ne];omega
     clear hk hk0;go_wp2
     go_roundg (gk-1)
     case measure=>omega
     case rel=>exact⟨k+1,x/10,dg::l,_,by omega,by go_num,by first|rfl|(rw[hdiv])|simp,rfl,HS,by rw[ByteArray.size_append,hone];omega,HD,Hxk,Hx64,hur.alloc _⟩
   ·have hkb:((k:Int)==0)=false:=by rw[beq_eq_false_iff_ne];omega
    have hx0:¬(0:Int)<(x:Int):=by omega
    have hx1:x=0:=by omega
    have HF:=Qh (show sb=⟨(Zdx false v0).toArray⟩ by
     rw[HH.out,hd.out,hsb.out];unfold Zag;rw[if_neg hk];rfl)
    clear hx hx64 hk hx1;go_wp2
    go_ret
    exact⟨by rw[←HF.out];rfl,hur⟩
 ·obtain⟨hneg,hnv⟩:=hn2 rfl;have hwn:IntKind.u64.wrap n=18446744073709551616-(v0:Int):=by rw[IntKind.wrap_u64];omega
  have hwz:IntKind.u64.wrap (-(18446744073709551616-(v0:Int)))=(v0:Int):=by rw[IntKind.wrap_u64];omega
  have HH:=Qh (show Zdx true v0=45::Zac v0 from rfl);have Hv:=Qh hv;clear hn1 hn2 hv hmin hnv
  go_enter Try.func30,Try.ntmps30
  go_wp2
  go_loopg [3,4,5] 20 (fun gk v s i wr=>∃(k x:Nat) (l:List UInt8) (sb:ByteArray),k+gk=20∧i= .int .i64 k∧v= .int .u64 (x:Int)∧s= .string sb∧Hid (sb=⟨l.toArray⟩)∧sb.size≤k∧Hid (Zac v0=Zag k x++l)∧Hid (x<10 ^ (20-k))∧Hid (x<18446744073709551616)∧Upd No w wr)
  case atStart=>exact⟨0,v0,[],⟨#[]⟩,by omega,rfl,by first|rfl|(rw[hwz]),rfl,Qh rfl,by decide,Qh (by simp[Zag,Zac]),Qh (by have:=Hv.out;simp;omega),Qh Hv.out,Upd.refl _ _⟩
  case round=>
   obtain⟨k,x,l,sb,hgk,rfl,rfl,rfl,hsb,hsz,hd,hx',hx64',hur⟩:=hrel;have hx:=hx'.out;have hx64:=hx64'.out;clear hx' hx64'
   by_cases hk:k=0∨0<x
   ·have hk20:k<20:=by
     rcases Nat.lt_or_ge k 20 with h|h
     ·exact h
     ·rw[show 20-k=0 by omega]at hx;omega
    by_cases hk0:k=0
    ·obtain⟨dg,hdg⟩:∃dg,dg=UInt8.ofNat (48+x%10):=⟨_,rfl⟩
     have hcv:(convert 68 9 (.slice (some ⟨wr.heap.size,0,none⟩) 1 1)).run Try.prog (wr.alloc (.cells #[.int .u8 (48+(x:Int)%10)] 5))= .ok (.string ⟨#[dg]⟩) (wr.alloc (.cells #[.int .u8 (48+(x:Int)%10)] 5)):=
      ZcN (wr.alloc (.cells #[.int .u8 (48+(x:Int)%10)] 5)) wr.heap.size 0 [dg] 1 (fun i v hv=>by
       have hb:=(Blk.new wr 5 [.int .u8 (48+(x:Int)%10)]).cell (0+i);rw[hb]
       cases i with
       |zero=>simp only[Qz,Option.some.injEq]at hv;subst hv;rw[hdg,ZbF];rfl
       |succ i=>simp at hv)
     have hxk:x/10<10 ^ (20-(k+1)):=by
      rw[show 20-k=(20-(k+1))+1 by omega,Nat.pow_succ]at hx;omega
     have HS:Hid ((⟨#[dg]⟩:ByteArray)++sb=⟨(dg::l).toArray⟩):=Qh (by rw[hsb.out,show(⟨#[dg]⟩:ByteArray)=⟨[dg].toArray⟩ from rfl,ZaJ];rfl);have HD:Hid (Zac v0=Zag (k+1) (x/10)++(dg::l)):=Qh (by rw[hd.out,ZbG hk20 hk,hdg,List.append_assoc];rfl)
     have hdiv:IntKind.u64.wrap ((x:Int)/10)=((x/10:Nat):Int):=by
      have hx19:x<18446744073709551616:=hx64;rw[IntKind.wrap_u64];omega
     have hx10:x/10<18446744073709551616:=by omega
     have hone:(⟨#[dg]⟩:ByteArray).size=1:=rfl;have Hxk:=Qh hxk;have Hx64:=Qh hx10;clear hdg hxk hx hx64 hx10;have hkb:((k:Int)==0)=true:=by rw[beq_iff_eq];omega
     clear hk hk0;go_wp2
     go_roundg (gk-1)
     case measure=>omega
     case rel=>exact⟨k+1,x/10,dg::l,_,by omega,by go_num,by first|rfl|(rw[hdiv])|simp,rfl,HS,by rw[ByteArray.size_append,hone];omega,HD,Hxk,Hx64,hur.alloc _⟩
    ·have hx0:(0:Int)<(x:Int):=by omega
     obtain⟨dg,hdg⟩:∃dg,dg=UInt8.ofNat (48+x%10):=⟨_,rfl⟩
     have hcv:(convert 68 9 (.slice (some ⟨wr.heap.size,0,none⟩) 1 1)).run Try.prog (wr.alloc (.cells #[.int .u8 (48+(x:Int)%10)] 5))= .ok (.string ⟨#[dg]⟩) (wr.alloc (.cells #[.int .u8 (48+(x:Int)%10)] 5)):=
      ZcN (wr.alloc (.cells #[.int .u8 (48+(x:Int)%10)] 5)) wr.heap.size 0 [dg] 1 (fun i v hv=>by
       have hb:=(Blk.new wr 5 [.int .u8 (48+(x:Int)%10)]).cell (0+i);rw[hb]
       cases i with
       |zero=>simp only[Qz,Option.some.injEq]at hv;subst hv;rw[hdg,ZbF];rfl
       |succ i=>simp at hv)
     have hxk:x/10<10 ^ (20-(k+1)):=by
      rw[show 20-k=(20-(k+1))+1 by omega,Nat.pow_succ]at hx;omega
     have HS:Hid ((⟨#[dg]⟩:ByteArray)++sb=⟨(dg::l).toArray⟩):=Qh (by rw[hsb.out,show(⟨#[dg]⟩:ByteArray)=⟨[dg].toArray⟩ from rfl,ZaJ];rfl);have HD:Hid (Zac v0=Zag (k+1) (x/10)++(dg::l)):=Qh (by rw[hd.out,ZbG hk20 hk,hdg,List.append_assoc];rfl)
     have hdiv:IntKind.u64.wrap ((x:Int)/10)=((x/10:Nat):Int):=by
      have hx19:x<18446744073709551616:=hx64;rw[IntKind.wrap_u64];omega
     have hx10:x/10<18446744073709551616:=by omega
     have hone:(⟨#[dg]⟩:ByteArray).size=1:=rfl;have Hxk:=Qh hxk;have Hx64:=Qh hx10;clear hdg hxk hx hx64 hx10;have hkb:((k:Int)==0)=false:=by rw[beq_eq_false_iff_ne];omega
     clear hk hk0;go_wp2
     go_roundg (gk-1)
     case measure=>omega
     case rel=>exact⟨k+1,x/10,dg::l,_,by omega,by go_num,by first|rfl|(rw[hdiv])|simp,rfl,HS,by rw[ByteArray.size_append,hone];omega,HD,Hxk,Hx64,hur.alloc _⟩
   ·have hkb:((k:Int)==0)=false:=by rw[beq_eq_false_iff_ne];omega
    have hx0:¬(0:Int)<(x:Int):=by omega
    have hx1:x=0:=by omega
    have hmz:(⟨#[45]⟩:ByteArray).size=1:=rfl
    have HF:=Qh (show(⟨#[45]⟩:ByteArray)++sb=⟨(Zdx true v0).toArray⟩ by
     rw[HH.out,hd.out,hsb.out,show(⟨#[45]⟩:ByteArray)=⟨[45].toArray⟩ from rfl,ZaJ];unfold Zag;rw[if_neg hk];rfl)
    clear hx hx64 hk hx1;go_wp2
    go_ret
    exact⟨by rw[←HF.out];rfl,hur⟩
end
/- The program's digits. -/
section
open Go.RowKit
def Zdq (j:Nat) (l:List UInt8):List Value:=List.replicate j (.int .u8 0)++l.map fun b=> .int .u8 (b.toNat:Int)
theorem Zg9 (m:Nat) (l:List UInt8) (b:UInt8):(Zdq (m+1) l).set m (.int .u8 (b.toNat:Int))=Zdq m (b::l):=by
 unfold Zdq;rw[List.replicate_succ',List.append_assoc,List.set_append_right _ _ (by simp)];simp
theorem Zgl (m:Nat) (l:List UInt8):(Zdq (m+1) l)[m]? =some (.int .u8 0):=by
 unfold Zdq;rw[List.getElem?_append_left (by simp)];simp
theorem Zln (j:Nat) (l:List UInt8) (i:Nat) (v:UInt8) (h:l[i]? =some v):(Zdq j l)[j+i]? =some (.int .u8 (v.toNat:Int)):=by
 unfold Zdq;rw[List.getElem?_append_right (by simp)];simp[h]
theorem Zj9 (w:World) (b m n:Nat) (h:m+n=20) (hn:0<n):
  (Instr.sliceAt 110 (.pointer (some ⟨b,0,none⟩)) (some (.int .i64 (m:Int))) none none).run Try.prog w= .ok (.slice (some ⟨b,m,none⟩) n n) w:=by
 have ha:Try.prog.arrayLen 110=20:=by kernel_rfl
 have he:Try.prog.elem 110=5:=by kernel_rfl
 have hs:∀w:World,(sizeOf 5).run Try.prog w= .ok 1 w:=fun w=>by kernel_rfl
 have hu:Try.prog.underlying 110=some (.array (Try.prog.arrayLen 110) (Try.prog.elem 110)):=by kernel_rfl
 rw[run_sliceAt_array_l w 110 ⟨b,0,none⟩ hu .i64 (m:Int) (by omega) (by rw[ha];omega),he,hs];have h1:¬20=m:=by omega
 have h2:20-m=n:=by omega
 simp[Result.andThen,slicedAt,ha,h1,h2,Addr.add];omega
set_option maxRecDepth 100000 in
set_option maxHeartbeats 1000000 in
theorem ZeH (w:World) (v0:Nat) (hv:v0<18446744073709551616):
  Calls Try.prog 52 #[.int .u64 (v0:Int)] w fun e w'=>e= .returned (.string ⟨(Zac v0).toArray⟩)∧Upd No w w':=by
 have Hv:=Qh hv;clear hv
 go_enter Try.func52,Try.ntmps52
 go_wp2
 go_loopg [0,4] 20 (fun gk v i wr=>∃(k x j:Nat) (l:List UInt8),k+gk=20∧k+j=20∧l.length=k∧i= .int .i64 (j:Int)∧v= .int .u64 (x:Int)∧Blk wr w.heap.size 110 (Zdq j l)∧Hid (Zac v0=Zag k x++l)∧Hid (x<10 ^ (20-k))∧Hid (x<18446744073709551616)∧Upd No w wr)
 case atStart=>exact⟨0,v0,20,[],by omega,by omega,rfl,rfl,rfl,Blk.new w 110 (Zdq 20 []),Qh (by simp[Zag,Zac]),Qh (by have:=Hv.out;simp;omega),Qh Hv.out,(Upd.refl _ _).alloc _⟩
 case round=>
  obtain⟨k,x,j,l,hgk,hkj,hlen,rfl,rfl,hb,hd,hx',hx64',hur⟩:=hrel;have hx:=hx'.out;have hx64:=hx64'.out;clear hx' hx64'
  by_cases hk:k=0∨0<x
  ·have hk20:k<20:=by
    rcases Nat.lt_or_ge k 20 with h|h
    ·exact h
    ·rw[show 20-k=0 by omega]at hx;omega
   obtain⟨m,rfl⟩:∃m,j=m+1:=⟨j-1,by omega⟩
   by_cases hk0:k=0
   ·obtain⟨dg,hdg⟩:∃dg,dg=UInt8.ofNat (48+x%10):=⟨_,rfl⟩;have hdi:(48:Int)+(x:Int)%10=(dg.toNat:Int):=by rw[hdg,ZbF]
    have hc0:wr.cell? ⟨w.heap.size,m,none⟩=some (.int .u8 0):=(hb.cell m).trans (Zgl m l);have hf0:wr.frozen? ⟨w.heap.size,m,none⟩=false:=hb.free m;have hb':=hb.set_ m (.int .u8 (dg.toNat:Int));rw[Zg9]at hb';have hu':=hur.setCell (p:=⟨w.heap.size,m,none⟩) (.inr (Nat.le_refl _)) (.int .u8 (dg.toNat:Int))
    have hxk:x/10<10 ^ (20-(k+1)):=by
     rw[show 20-k=(20-(k+1))+1 by omega,Nat.pow_succ]at hx;omega
    have HD:Hid (Zac v0=Zag (k+1) (x/10)++(dg::l)):=Qh (by rw[hd.out,ZbG hk20 hk,hdg,List.append_assoc];rfl);have hx10:x/10<18446744073709551616:=by omega
    have hdv:IntKind.u64.wrap ((x:Int)/10)=((x/10:Nat):Int):=by
     rw[IntKind.wrap_u64];omega
    have Hxk:=Qh hxk;have Hx64:=Qh hx10;have hm1:((m+1:Nat):Int)-1=(m:Int):=by omega
    have hm20:(m:Int)<20:=by omega
    clear hdg hxk hx hx64 hx10;obtain rfl:m=19:=by omega
    subst hk0;clear hk;go_wp2
    go_roundg (gk-1)
    case measure=>omega
    case rel=>exact⟨0+1,x/10,19,dg::l,by omega,by omega,by simp[hlen],rfl,by first|rfl|(rw[hdv]),hb',HD,Hxk,Hx64,hu'⟩
   ·have hx0:(0:Int)<(x:Int):=by omega
    obtain⟨dg,hdg⟩:∃dg,dg=UInt8.ofNat (48+x%10):=⟨_,rfl⟩;have hdi:(48:Int)+(x:Int)%10=(dg.toNat:Int):=by rw[hdg,ZbF]
    have hc0:wr.cell? ⟨w.heap.size,m,none⟩=some (.int .u8 0):=(hb.cell m).trans (Zgl m l);have hf0:wr.frozen? ⟨w.heap.size,m,none⟩=false:=hb.free m;have hb':=hb.set_ m (.int .u8 (dg.toNat:Int));rw[Zg9]at hb';have hu':=hur.setCell (p:=⟨w.heap.size,m,none⟩) (.inr (Nat.le_refl _)) (.int .u8 (dg.toNat:Int))
    have hxk:x/10<10 ^ (20-(k+1)):=by
     rw[show 20-k=(20-(k+1))+1 by omega,Nat.pow_succ]at hx;omega
    have HD:Hid (Zac v0=Zag (k+1) (x/10)++(dg::l)):=Qh (by rw[hd.out,ZbG hk20 hk,hdg,List.append_assoc];rfl);have hx10:x/10<18446744073709551616:=by omega
    have hdv:IntKind.u64.wrap ((x:Int)/10)=((x/10:Nat):Int):=by
     rw[IntKind.wrap_u64];omega
    have Hxk:=Qh hxk;have Hx64:=Qh hx10;have hm1:((m+1:Nat):Int)-1=(m:Int):=by omega
    have hm20:(m:Int)<20:=by omega
    clear hdg hxk hx hx64 hx10;have hkb:((m:Int)+1==20)=false:=by rw[beq_eq_false_iff_ne];omega
    clear hk hk0;go_wp2
    go_roundg (gk-1)
    case measure=>omega
    case rel=>exact⟨k+1,x/10,m,dg::l,by omega,by omega,by simp[hlen],by go_num,by first|rfl|(rw[hdv]),hb',HD,Hxk,Hx64,hu'⟩
  ·have hj20:((j:Int)==20)=false:=by rw[beq_eq_false_iff_ne];omega
   have hx0:¬(0:Int)<(x:Int):=by omega
   have hx1:x=0:=by omega
   have hsl:=Zj9 wr w.heap.size j k (by omega) (by omega);have hcv:=ZcN wr w.heap.size j l k (fun i v hv=>(hb.cell (j+i)).trans (Zln j l i v hv));rw[hlen]at hcv
   have HF:=Qh (show l=Zac v0 by
    rw[hd.out];unfold Zag;rw[if_neg hk];rfl)
   clear hx hx64 hk hx1;go_wp2
   go_ret
   exact⟨by rw[←HF.out];rfl,hur⟩
end
/- A number's text:the program's,and the document's;a kind's word. -/
section
open Go.RowKit
def ZaP (n:Int):List UInt8:=Zdx (decide (n<0)) n.natAbs
theorem ZkL (f u:Nat):(Ze1 f u).length≤f:=by
 induction f generalizing u with
 |zero=>simp[Ze1]
 |succ f ih=>
  unfold Ze1;have:=ih (u/10)
  split<;>simp<;>omega
theorem ZhQ (u:Nat):(Zac u).length≤20:=ZkL 20 u
theorem Zb6 (n:Int):(ZaP n).length≤21:=by
 unfold ZaP Zdx;have:=ZhQ n.natAbs
 split<;>simp<;>omega
set_option maxRecDepth 100000 in
theorem ZnN (w:World) (n:Int) (h1: -9223372036854775808≤n) (h2:n≤9223372036854775807):
  Calls Try.prog 30 #[.int .i64 n] w fun e w'=>e= .returned (.string ⟨(ZaP n).toArray⟩)∧Upd No w w':=
 Zjj w n n.natAbs (decide (n<0)) (by omega) (fun h=>by have:=of_decide_eq_false h;omega) (fun h=>by have:=of_decide_eq_true h;omega) h1 h2
set_option maxRecDepth 100000 in
set_option maxHeartbeats 1000000 in
theorem ZnX (w:World) (n:Int) (h1: -9223372036854775808≤n) (h2:n≤9223372036854775807):
  Calls Try.prog 35 #[.int .i64 n] w fun e w'=>e= .returned (.string ⟨(ZaP n).toArray⟩)∧Upd No w w':=by
 obtain⟨v0,hv0⟩:∃v0,v0=n.natAbs:=⟨_,rfl⟩;have hv:v0<18446744073709551616:=by omega
 by_cases hn:n<0
 ·have HF:=Qh (show ZaP n=45::Zac v0 by unfold ZaP;rw[decide_eq_true hn,hv0];rfl);have hwn:IntKind.u64.wrap n=18446744073709551616-(v0:Int):=by rw[IntKind.wrap_u64];omega
  have hwz:IntKind.u64.wrap (-(18446744073709551616-(v0:Int)))=(v0:Int):=by rw[IntKind.wrap_u64];omega
  have hwz2:IntKind.u64.wrap (0-(18446744073709551616-(v0:Int)))=(v0:Int):=by rw[IntKind.wrap_u64];omega
  have Hv:=Qh hv;clear hv hv0
  go_enter Try.func35,Try.ntmps35
  go_wp2_with fail
  refine(ZeH w v0 Hv.out).mono ?_;rintro e w2 ⟨rfl,hu⟩;have hmz:(⟨#[45]⟩:ByteArray).size=1:=rfl;have hl:(Zac v0).length≤20:=ZhQ v0;have hls:(⟨(Zac v0).toArray⟩:ByteArray).size≤20:=by simpa[ByteArray.size]using hl
  go_wp2
  go_ret
  exact⟨by rw[HF.out,show(⟨#[45]⟩:ByteArray)=⟨[45].toArray⟩ from rfl,ZaJ];rfl,hu⟩
 ·have HF:=Qh (show ZaP n=Zac v0 by unfold ZaP;rw[decide_eq_false hn,hv0];rfl);have hnv:n=(v0:Int):=by omega
  have hwn:IntKind.u64.wrap n=(v0:Int):=by rw[IntKind.wrap_u64];omega
  have Hv:=Qh hv;clear hv hv0 hnv
  go_enter Try.func35,Try.ntmps35
  go_wp2_with fail
  refine(ZeH w v0 Hv.out).mono ?_;rintro e w2 ⟨rfl,hu⟩;go_wp2
  go_ret
  exact⟨by rw[HF.out];rfl,hu⟩
def Zcc (k:Int):List UInt8:=if k=1 then [119,119] else if k=2 then [119,114] else if k=3 then [114,119] else [120]
set_option maxRecDepth 100000 in
theorem Zm3 (w:World) (k:Int):
  Calls Try.prog 50 #[.int .i64 k] w fun e w'=>e= .returned (.string ⟨(Zcc k).toArray⟩)∧Upd No w w':=by
 by_cases h1:k=1
 ·subst h1
  go_enter Try.func50,Try.ntmps50
  go_wp2
  go_ret
  exact⟨rfl,Upd.refl _ _⟩
 ·by_cases h2:k=2
  ·subst h2
   go_enter Try.func50,Try.ntmps50
   go_wp2
   go_ret
   exact⟨rfl,Upd.refl _ _⟩
  ·by_cases h3:k=3
   ·subst h3
    go_enter Try.func50,Try.ntmps50
    go_wp2
    go_ret
    exact⟨rfl,Upd.refl _ _⟩
   ·have H:=Qh (show Zcc k=[120] by unfold Zcc;rw[if_neg h1,if_neg h2,if_neg h3])
    go_enter Try.func50,Try.ntmps50
    go_wp2
    go_ret
    exact⟨by rw[H.out];rfl,Upd.refl _ _⟩
set_option maxRecDepth 100000 in
theorem Znq (w:World) (k:Int):
  Calls Try.prog 48 #[.int .i64 k] w fun e w'=>e= .returned (.string ⟨(Zcc k).toArray⟩)∧Upd No w w':=by
 by_cases h1:k=1
 ·subst h1
  go_enter Try.func48,Try.ntmps48
  go_wp2
  go_ret
  exact⟨rfl,Upd.refl _ _⟩
 ·by_cases h2:k=2
  ·subst h2
   go_enter Try.func48,Try.ntmps48
   go_wp2
   go_ret
   exact⟨rfl,Upd.refl _ _⟩
  ·by_cases h3:k=3
   ·subst h3
    go_enter Try.func48,Try.ntmps48
    go_wp2
    go_ret
    exact⟨rfl,Upd.refl _ _⟩
   ·have H:=Qh (show Zcc k=[120] by unfold Zcc;rw[if_neg h1,if_neg h2,if_neg h3])
    go_enter Try.func48,Try.ntmps48
    go_wp2
    go_ret
    exact⟨by rw[H.out];rfl,Upd.refl _ _⟩
end
end Go.Proofs.Ytdbjokfejmgepaa
