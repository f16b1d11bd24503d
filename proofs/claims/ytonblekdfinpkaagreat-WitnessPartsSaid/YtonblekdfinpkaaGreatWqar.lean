/- Numbers as texts: the document's digits. -/
import Derived.Test.YtonblekdfinpkaaGreatProg
import Derived.IntWalk
import Derived.Lib.SlBytesRow
import Derived.Test.YtonblekdfinpkaaGreatWqai
namespace Go.Proofs.YtonblekdfinpkaaGreat
set_option linter.unusedVariables false
set_option linter.unusedSimpArgs false
section
open Go.RowKit
def Zhq:Nat→Nat→List UInt8
 |0,_=>[]
 |f+1,u=>(if u<10 then [] else Zhq f (u/10))++[UInt8.ofNat (48+u%10)]
def Zc1 (u:Nat):List UInt8:=Zhq 20 u
def Zen (i u:Nat):List UInt8:=if i=0∨0<u then Zhq (20-i) u else []
theorem ZjZ {i u:Nat} (hi:i<20) (h:i=0∨0<u):Zen i u=Zen (i+1) (u/10)++[UInt8.ofNat (48+u%10)]:=by
 unfold Zen;rw[if_pos h,show 20-i=(20-(i+1))+1 by omega,Zhq]
 congr 1
 by_cases hu:u<10
 ·rw[if_pos hu,if_neg (by omega)]
 ·rw[if_neg hu,if_pos (by omega)]
theorem ZjW (x:Nat):((UInt8.ofNat (48+x%10)).toNat:Int)=48+(x:Int)%10:=by
 rw[UInt8.toNat_ofNat'];omega
theorem Zqt (w:World) (b o:Nat) (l:List UInt8) (cap:Nat) (hc:∀(i:Nat) (v:UInt8),l[i]? =some v→w.cell? ⟨b,o+i,none⟩=some (.int .u8 (v.toNat:Int))):
  (convert 151 9 (.slice (some ⟨b,o,none⟩) l.length cap)).run Tryz.prog w= .ok (.string ⟨l.toArray⟩) w:=by
 have h:=Lib.run_convert_whole (P:=Tryz.prog) w 151 5 9 Tryz.underlying151 Tryz.underlying5 Tryz.underlying9 b o ⟨l.toArray⟩ (fun i hi=>by
  have hi':i<l.length:=by simpa[ByteArray.size]using hi
  rw[hc i l[i] (Qg hi')];rfl) cap
 have hs:(⟨l.toArray⟩:ByteArray).size=l.length:=by simp[ByteArray.size]
 rw[hs]at h;exact h
theorem ZiI (a b:List UInt8):((⟨a.toArray⟩:ByteArray)++⟨b.toArray⟩)=⟨(a++b).toArray⟩:=by
 apply ByteArray.ext
 simp
def ZqS (neg:Bool) (u:Nat):List UInt8:=if neg then 45::Zc1 u else Zc1 u
end
/- The program's digits. -/
section
open Go.RowKit
def Zfc (j:Nat) (l:List UInt8):List Value:=List.replicate j (.int .u8 0)++l.map fun b=> .int .u8 (b.toNat:Int)
theorem ZkA (m:Nat) (l:List UInt8) (b:UInt8):(Zfc (m+1) l).set m (.int .u8 (b.toNat:Int))=Zfc m (b::l):=by
 unfold Zfc;rw[List.replicate_succ',List.append_assoc,List.set_append_right _ _ (by simp)];simp
theorem Zjg (m:Nat) (l:List UInt8):(Zfc (m+1) l)[m]? =some (.int .u8 0):=by
 unfold Zfc;rw[List.getElem?_append_left (by simp)];simp
theorem Zro (j:Nat) (l:List UInt8) (i:Nat) (v:UInt8) (h:l[i]? =some v):(Zfc j l)[j+i]? =some (.int .u8 (v.toNat:Int)):=by
 unfold Zfc;rw[List.getElem?_append_right (by simp)];simp[h]
theorem ZpB (w:World) (b m n:Nat) (h:m+n=20) (hn:0<n):
  (Instr.sliceAt 288 (.pointer (some ⟨b,0,none⟩)) (some (.int .i64 (m:Int))) none none).run Tryz.prog w= .ok (.slice (some ⟨b,m,none⟩) n n) w:=by
 have ha:Tryz.prog.arrayLen 288=20:=by kernel_rfl
 have he:Tryz.prog.elem 288=5:=by kernel_rfl
 have hs:∀w:World,(sizeOf 5).run Tryz.prog w= .ok 1 w:=fun w=>by kernel_rfl
 have hu:Tryz.prog.underlying 288=some (.array (Tryz.prog.arrayLen 288) (Tryz.prog.elem 288)):=by kernel_rfl
 rw[run_sliceAt_array_l w 288 ⟨b,0,none⟩ hu .i64 (m:Int) (by omega) (by rw[ha];omega),he,hs];have h1:¬20=m:=by omega
 have h2:20-m=n:=by omega
 simp[Result.andThen,slicedAt,ha,h1,h2,Addr.add];omega
set_option maxRecDepth 100000 in
set_option maxHeartbeats 1000000 in
theorem ZgQ (w:World) (v0:Nat) (hv:v0<18446744073709551616):
  Calls Tryz.prog 173 #[.int .u64 (v0:Int)] w fun e w'=>e= .returned (.string ⟨(Zc1 v0).toArray⟩)∧Upd No w w':=by
 have Hv:=Qh hv;clear hv
 go_enter Tryz.func173,Tryz.ntmps173
 go_wp2
 go_loopg [0,4] 20 (fun gk v i wr=>∃(k x j:Nat) (l:List UInt8),k+gk=20∧k+j=20∧l.length=k∧i= .int .i64 (j:Int)∧v= .int .u64 (x:Int)∧Blk wr w.heap.size 288 (Zfc j l)∧Hid (Zc1 v0=Zen k x++l)∧Hid (x<10 ^ (20-k))∧Hid (x<18446744073709551616)∧Upd No w wr)
 case atStart=>exact⟨0,v0,20,[],by omega,by omega,rfl,rfl,rfl,Blk.new w 288 (Zfc 20 []),Qh (by simp[Zen,Zc1]),Qh (by have:=Hv.out;simp;omega),Qh Hv.out,(Upd.refl _ _).alloc _⟩
 case round=>
  obtain⟨k,x,j,l,hgk,hkj,hlen,rfl,rfl,hb,hd,hx',hx64',hur⟩:=hrel;have hx:=hx'.out;have hx64:=hx64'.out;clear hx' hx64'
  by_cases hk:k=0∨0<x
  ·have hk20:k<20:=by
    rcases Nat.lt_or_ge k 20 with h|h
    ·exact h
    ·rw[show 20-k=0 by omega]at hx;omega
   obtain⟨m,rfl⟩:∃m,j=m+1:=⟨j-1,by omega⟩
   by_cases hk0:k=0
   ·obtain⟨dg,hdg⟩:∃dg,dg=UInt8.ofNat (48+x%10):=⟨_,rfl⟩;have hdi:(48:Int)+(x:Int)%10=(dg.toNat:Int):=by rw[hdg,ZjW]
    have hc0:wr.cell? ⟨w.heap.size,m,none⟩=some (.int .u8 0):=(hb.cell m).trans (Zjg m l);have hf0:wr.frozen? ⟨w.heap.size,m,none⟩=false:=hb.free m;have hb':=hb.set_ m (.int .u8 (dg.toNat:Int));rw[ZkA]at hb';have hu':=hur.setCell (p:=⟨w.heap.size,m,none⟩) (.inr (Nat.le_refl _)) (.int .u8 (dg.toNat:Int))
    have hxk:x/10<10 ^ (20-(k+1)):=by
     rw[show 20-k=(20-(k+1))+1 by omega,Nat.pow_succ]at hx;omega
    have HD:Hid (Zc1 v0=Zen (k+1) (x/10)++(dg::l)):=Qh (by rw[hd.out,ZjZ hk20 hk,hdg,List.append_assoc];rfl);have hx10:x/10<18446744073709551616:=by omega
    have hdv:IntKind.u64.wrap ((x:Int)/10)=((x/10:Nat):Int):=by
     rw[IntKind.wrap_u64];omega
    have Hxk:=Qh hxk;have Hx64:=Qh hx10;have hm1:((m+1:Nat):Int)-1=(m:Int):=by omega
    have hm20:(m:Int)<20:=by omega
    clear hdg hxk hx hx64 hx10;obtain rfl:m=19:=by omega
    subst hk0;clear hk;go_wp2
    go_roundg (gk-1)
    case measure=>omega
    case rel=>exact⟨0+1,x/10,19,dg::l,by omega,by omega,by simp[hlen],rfl,by first|rfl|(rw[hdv]),hb',HD,Hxk,Hx64,hu'⟩
   ·have hx0:(0:Int)<(x:Int):=by omega
    obtain⟨dg,hdg⟩:∃dg,dg=UInt8.ofNat (48+x%10):=⟨_,rfl⟩;have hdi:(48:Int)+(x:Int)%10=(dg.toNat:Int):=by rw[hdg,ZjW]
    have hc0:wr.cell? ⟨w.heap.size,m,none⟩=some (.int .u8 0):=(hb.cell m).trans (Zjg m l);have hf0:wr.frozen? ⟨w.heap.size,m,none⟩=false:=hb.free m;have hb':=hb.set_ m (.int .u8 (dg.toNat:Int));rw[ZkA]at hb';have hu':=hur.setCell (p:=⟨w.heap.size,m,none⟩) (.inr (Nat.le_refl _)) (.int .u8 (dg.toNat:Int))
    have hxk:x/10<10 ^ (20-(k+1)):=by
     rw[show 20-k=(20-(k+1))+1 by omega,Nat.pow_succ]at hx;omega
    have HD:Hid (Zc1 v0=Zen (k+1) (x/10)++(dg::l)):=Qh (by rw[hd.out,ZjZ hk20 hk,hdg,List.append_assoc];rfl);have hx10:x/10<18446744073709551616:=by omega
    have hdv:IntKind.u64.wrap ((x:Int)/10)=((x/10:Nat):Int):=by
     rw[IntKind.wrap_u64];omega
    have Hxk:=Qh hxk;have Hx64:=Qh hx10;have hm1:((m+1:Nat):Int)-1=(m:Int):=by omega
    have hm20:(m:Int)<20:=by omega
    clear hdg hxk hx hx64 hx10;have hkb:((m:Int)+1==20)=false:=by rw[beq_eq_false_iff_ne];omega
    clear hk hk0;go_wp2
    go_roundg (gk-1)
    case measure=>omega
    case rel=>exact⟨k+1,x/10,m,dg::l,by omega,by omega,by simp[hlen],by go_num,by first|rfl|(rw[hdv]),hb',HD,Hxk,Hx64,hu'⟩
  ·have hj20:((j:Int)==20)=false:=by rw[beq_eq_false_iff_ne];omega
   have hx0:¬(0:Int)<(x:Int):=by omega
   have hx1:x=0:=by omega
   have hsl:=ZpB wr w.heap.size j k (by omega) (by omega);have hcv:=Zqt wr w.heap.size j l k (fun i v hv=>(hb.cell (j+i)).trans (Zro j l i v hv));rw[hlen]at hcv
   have HF:=Qh (show l=Zc1 v0 by
    rw[hd.out];unfold Zen;rw[if_neg hk];rfl)
   clear hx hx64 hk hx1;go_wp2
   go_ret
   exact⟨by rw[←HF.out];rfl,hur⟩
end
/- A number's text:the program's,and the document's;a kind's word. -/
section
open Go.RowKit
def Zcu (n:Int):List UInt8:=ZqS (decide (n<0)) n.natAbs
theorem Zqr (f u:Nat):(Zhq f u).length≤f:=by
 induction f generalizing u with
 |zero=>simp[Zhq]
 |succ f ih=>
  unfold Zhq;have:=ih (u/10)
  split<;>simp<;>omega
theorem Zls (u:Nat):(Zc1 u).length≤20:=Zqr 20 u
theorem Zd0 (n:Int):(Zcu n).length≤21:=by
 unfold Zcu ZqS;have:=Zls n.natAbs
 split<;>simp<;>omega
set_option maxRecDepth 100000 in
set_option maxHeartbeats 1000000 in
theorem Zt4 (w:World) (n:Int) (h1: -9223372036854775808≤n) (h2:n≤9223372036854775807):
  Calls Tryz.prog 98 #[.int .i64 n] w fun e w'=>e= .returned (.string ⟨(Zcu n).toArray⟩)∧Upd No w w':=by
 obtain⟨v0,hv0⟩:∃v0,v0=n.natAbs:=⟨_,rfl⟩;have hv:v0<18446744073709551616:=by omega
 by_cases hn:n<0
 ·have HF:=Qh (show Zcu n=45::Zc1 v0 by unfold Zcu;rw[decide_eq_true hn,hv0];rfl);have hwn:IntKind.u64.wrap n=18446744073709551616-(v0:Int):=by rw[IntKind.wrap_u64];omega
  have hwz:IntKind.u64.wrap (-(18446744073709551616-(v0:Int)))=(v0:Int):=by rw[IntKind.wrap_u64];omega
  have hwz2:IntKind.u64.wrap (0-(18446744073709551616-(v0:Int)))=(v0:Int):=by rw[IntKind.wrap_u64];omega
  have Hv:=Qh hv;clear hv hv0
  go_enter Tryz.func98,Tryz.ntmps98
  go_wp2_with fail
  refine(ZgQ w v0 Hv.out).mono ?_;rintro e w2 ⟨rfl,hu⟩;have hmz:(⟨#[45]⟩:ByteArray).size=1:=rfl;have hl:(Zc1 v0).length≤20:=Zls v0;have hls:(⟨(Zc1 v0).toArray⟩:ByteArray).size≤20:=by simpa[ByteArray.size]using hl
  go_wp2
  go_ret
  exact⟨by rw[HF.out,show(⟨#[45]⟩:ByteArray)=⟨[45].toArray⟩ from rfl,ZiI];rfl,hu⟩
 ·have HF:=Qh (show Zcu n=Zc1 v0 by unfold Zcu;rw[decide_eq_false hn,hv0];rfl);have hnv:n=(v0:Int):=by omega
  have hwn:IntKind.u64.wrap n=(v0:Int):=by rw[IntKind.wrap_u64];omega
  have Hv:=Qh hv;clear hv hv0 hnv
  go_enter Tryz.func98,Tryz.ntmps98
  go_wp2_with fail
  refine(ZgQ w v0 Hv.out).mono ?_;rintro e w2 ⟨rfl,hu⟩;go_wp2
  go_ret
  exact⟨by rw[HF.out];rfl,hu⟩
def Ze3 (k:Int):List UInt8:=if k=1 then [119,119] else if k=2 then [119,114] else if k=3 then [114,119] else [120]
set_option maxRecDepth 100000 in
theorem Zti (w:World) (k:Int):
  Calls Tryz.prog 99 #[.int .i64 k] w fun e w'=>e= .returned (.string ⟨(Ze3 k).toArray⟩)∧Upd No w w':=by
 by_cases h1:k=1
 ·subst h1
  go_enter Tryz.func99,Tryz.ntmps99
  go_wp2
  go_ret
  exact⟨rfl,Upd.refl _ _⟩
 ·by_cases h2:k=2
  ·subst h2
   go_enter Tryz.func99,Tryz.ntmps99
   go_wp2
   go_ret
   exact⟨rfl,Upd.refl _ _⟩
  ·by_cases h3:k=3
   ·subst h3
    go_enter Tryz.func99,Tryz.ntmps99
    go_wp2
    go_ret
    exact⟨rfl,Upd.refl _ _⟩
   ·have H:=Qh (show Ze3 k=[120] by unfold Ze3;rw[if_neg h1,if_neg h2,if_neg h3])
    go_enter Tryz.func99,Tryz.ntmps99
    go_wp2
    go_ret
    exact⟨by rw[H.out];rfl,Upd.refl _ _⟩
end
end Go.Proofs.YtonblekdfinpkaaGreat
