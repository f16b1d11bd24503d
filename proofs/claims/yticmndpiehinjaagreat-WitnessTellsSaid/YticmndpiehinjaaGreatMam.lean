/- Numbers as texts: the document's digits. -/
import Derived.Test.YticmndpiehinjaaGreatProg
import Derived.IntWalk
import Derived.Lib.SlBytesRow
import Derived.Test.YticmndpiehinjaaGreatMai
namespace Go.Proofs.YticmndpiehinjaaGreat
set_option linter.unusedVariables false
set_option linter.unusedSimpArgs false
section
open Go.RowKit
def Zhh:Nat→Nat→List UInt8
 |0,_=>[]
 |f+1,u=>(if u<10 then [] else Zhh f (u/10))++[UInt8.ofNat (48+u%10)]
def Zdg (u:Nat):List UInt8:=Zhh 20 u
def Zep (i u:Nat):List UInt8:=if i=0∨0<u then Zhh (20-i) u else []
theorem Zjr {i u:Nat} (hi:i<20) (h:i=0∨0<u):Zep i u=Zep (i+1) (u/10)++[UInt8.ofNat (48+u%10)]:=by
 unfold Zep;rw[if_pos h,show 20-i=(20-(i+1))+1 by omega,Zhh]
 congr 1
 by_cases hu:u<10
 ·rw[if_pos hu,if_neg (by omega)]
 ·rw[if_neg hu,if_pos (by omega)]
theorem Zjo (x:Nat):((UInt8.ofNat (48+x%10)).toNat:Int)=48+(x:Int)%10:=by
 rw[UInt8.toNat_ofNat'];omega
theorem Zpr (w:World) (b o:Nat) (l:List UInt8) (cap:Nat) (hc:∀(i:Nat) (v:UInt8),l[i]? =some v→w.cell? ⟨b,o+i,none⟩=some (.int .u8 (v.toNat:Int))):
  (convert 64 9 (.slice (some ⟨b,o,none⟩) l.length cap)).run Tryz.prog w= .ok (.string ⟨l.toArray⟩) w:=by
 have h:=Lib.run_convert_whole (P:=Tryz.prog) w 64 5 9 Tryz.underlying64 Tryz.underlying5 Tryz.underlying9 b o ⟨l.toArray⟩ (fun i hi=>by
  have hi':i<l.length:=by simpa[ByteArray.size]using hi
  rw[hc i l[i] (Qg hi')];rfl) cap
 have hs:(⟨l.toArray⟩:ByteArray).size=l.length:=by simp[ByteArray.size]
 rw[hs]at h;exact h
theorem Zih (a b:List UInt8):((⟨a.toArray⟩:ByteArray)++⟨b.toArray⟩)=⟨(a++b).toArray⟩:=by
 apply ByteArray.ext
 simp
def ZpW (neg:Bool) (u:Nat):List UInt8:=if neg then 45::Zdg u else Zdg u
end
/- The program's digits. -/
section
open Go.RowKit
def Ze1 (j:Nat) (l:List UInt8):List Value:=List.replicate j (.int .u8 0)++l.map fun b=> .int .u8 (b.toNat:Int)
theorem ZjY (m:Nat) (l:List UInt8) (b:UInt8):(Ze1 (m+1) l).set m (.int .u8 (b.toNat:Int))=Ze1 m (b::l):=by
 unfold Ze1;rw[List.replicate_succ',List.append_assoc,List.set_append_right _ _ (by simp)];simp
theorem ZiO (m:Nat) (l:List UInt8):(Ze1 (m+1) l)[m]? =some (.int .u8 0):=by
 unfold Ze1;rw[List.getElem?_append_left (by simp)];simp
theorem Zqo (j:Nat) (l:List UInt8) (i:Nat) (v:UInt8) (h:l[i]? =some v):(Ze1 j l)[j+i]? =some (.int .u8 (v.toNat:Int)):=by
 unfold Ze1;rw[List.getElem?_append_right (by simp)];simp[h]
theorem Zow (w:World) (b m n:Nat) (h:m+n=20) (hn:0<n):
  (Instr.sliceAt 152 (.pointer (some ⟨b,0,none⟩)) (some (.int .i64 (m:Int))) none none).run Tryz.prog w= .ok (.slice (some ⟨b,m,none⟩) n n) w:=by
 have ha:Tryz.prog.arrayLen 152=20:=by kernel_rfl
 have he:Tryz.prog.elem 152=5:=by kernel_rfl
 have hs:∀w:World,(sizeOf 5).run Tryz.prog w= .ok 1 w:=fun w=>by kernel_rfl
 have hu:Tryz.prog.underlying 152=some (.array (Tryz.prog.arrayLen 152) (Tryz.prog.elem 152)):=by kernel_rfl
 rw[run_sliceAt_array_l w 152 ⟨b,0,none⟩ hu .i64 (m:Int) (by omega) (by rw[ha];omega),he,hs];have h1:¬20=m:=by omega
 have h2:20-m=n:=by omega
 simp[Result.andThen,slicedAt,ha,h1,h2,Addr.add];omega
set_option maxRecDepth 100000 in
set_option maxHeartbeats 1000000 in
theorem ZgR (w:World) (v0:Nat) (hv:v0<18446744073709551616):
  Calls Tryz.prog 67 #[.int .u64 (v0:Int)] w fun e w'=>e= .returned (.string ⟨(Zdg v0).toArray⟩)∧Upd No w w':=by
 have Hv:=Qh hv;clear hv
 go_enter Tryz.func67,Tryz.ntmps67
 go_wp2
 go_loopg [0,4] 20 (fun gk v i wr=>∃(k x j:Nat) (l:List UInt8),k+gk=20∧k+j=20∧l.length=k∧i= .int .i64 (j:Int)∧v= .int .u64 (x:Int)∧Blk wr w.heap.size 152 (Ze1 j l)∧Hid (Zdg v0=Zep k x++l)∧Hid (x<10 ^ (20-k))∧Hid (x<18446744073709551616)∧Upd No w wr)
 case atStart=>exact⟨0,v0,20,[],by omega,by omega,rfl,rfl,rfl,Blk.new w 152 (Ze1 20 []),Qh (by simp[Zep,Zdg]),Qh (by have:=Hv.out;simp;omega),Qh Hv.out,(Upd.refl _ _).alloc _⟩
 case round=>
  obtain⟨k,x,j,l,hgk,hkj,hlen,rfl,rfl,hb,hd,hx',hx64',hur⟩:=hrel;have hx:=hx'.out;have hx64:=hx64'.out;clear hx' hx64'
  by_cases hk:k=0∨0<x
  ·have hk20:k<20:=by
    rcases Nat.lt_or_ge k 20 with h|h
    ·exact h
    ·rw[show 20-k=0 by omega]at hx;omega
   obtain⟨m,rfl⟩:∃m,j=m+1:=⟨j-1,by omega⟩
   by_cases hk0:k=0
   ·obtain⟨dg,hdg⟩:∃dg,dg=UInt8.ofNat (48+x%10):=⟨_,rfl⟩;have hdi:(48:Int)+(x:Int)%10=(dg.toNat:Int):=by rw[hdg,Zjo]
    have hc0:wr.cell? ⟨w.heap.size,m,none⟩=some (.int .u8 0):=(hb.cell m).trans (ZiO m l);have hf0:wr.frozen? ⟨w.heap.size,m,none⟩=false:=hb.free m;have hb':=hb.set_ m (.int .u8 (dg.toNat:Int));rw[ZjY]at hb';have hu':=hur.setCell (p:=⟨w.heap.size,m,none⟩) (.inr (Nat.le_refl _)) (.int .u8 (dg.toNat:Int))
    have hxk:x/10<10 ^ (20-(k+1)):=by
     rw[show 20-k=(20-(k+1))+1 by omega,Nat.pow_succ]at hx;omega
    have HD:Hid (Zdg v0=Zep (k+1) (x/10)++(dg::l)):=Qh (by rw[hd.out,Zjr hk20 hk,hdg,List.append_assoc];rfl);have hx10:x/10<18446744073709551616:=by omega
    have hdv:IntKind.u64.wrap ((x:Int)/10)=((x/10:Nat):Int):=by
     rw[IntKind.wrap_u64];omega
    have Hxk:=Qh hxk;have Hx64:=Qh hx10;have hm1:((m+1:Nat):Int)-1=(m:Int):=by omega
    have hm20:(m:Int)<20:=by omega
    clear hdg hxk hx hx64 hx10;obtain rfl:m=19:=by omega
    subst hk0;clear hk;go_wp2
    go_roundg (gk-1)
    case measure=>omega
    case rel=>exact⟨0+1,x/10,19,dg::l,by omega,by omega,by simp[hlen],rfl,by first|rfl|(rw[hdv]),hb',HD,Hxk,Hx64,hu'⟩
   ·have hx0:(0:Int)<(x:Int):=by omega
    obtain⟨dg,hdg⟩:∃dg,dg=UInt8.ofNat (48+x%10):=⟨_,rfl⟩;have hdi:(48:Int)+(x:Int)%10=(dg.toNat:Int):=by rw[hdg,Zjo]
    have hc0:wr.cell? ⟨w.heap.size,m,none⟩=some (.int .u8 0):=(hb.cell m).trans (ZiO m l);have hf0:wr.frozen? ⟨w.heap.size,m,none⟩=false:=hb.free m;have hb':=hb.set_ m (.int .u8 (dg.toNat:Int));rw[ZjY]at hb';have hu':=hur.setCell (p:=⟨w.heap.size,m,none⟩) (.inr (Nat.le_refl _)) (.int .u8 (dg.toNat:Int))
    have hxk:x/10<10 ^ (20-(k+1)):=by
     rw[show 20-k=(20-(k+1))+1 by omega,Nat.pow_succ]at hx;omega
    have HD:Hid (Zdg v0=Zep (k+1) (x/10)++(dg::l)):=Qh (by rw[hd.out,Zjr hk20 hk,hdg,List.append_assoc];rfl);have hx10:x/10<18446744073709551616:=by omega
    have hdv:IntKind.u64.wrap ((x:Int)/10)=((x/10:Nat):Int):=by
     rw[IntKind.wrap_u64];omega
    have Hxk:=Qh hxk;have Hx64:=Qh hx10;have hm1:((m+1:Nat):Int)-1=(m:Int):=by omega
    have hm20:(m:Int)<20:=by omega
    clear hdg hxk hx hx64 hx10;have hkb:((m:Int)+1==20)=false:=by rw[beq_eq_false_iff_ne];omega
    clear hk hk0;go_wp2
    go_roundg (gk-1)
    case measure=>omega
    case rel=>exact⟨k+1,x/10,m,dg::l,by omega,by omega,by simp[hlen],by go_num,by first|rfl|(rw[hdv]),hb',HD,Hxk,Hx64,hu'⟩
  ·have hj20:((j:Int)==20)=false:=by rw[beq_eq_false_iff_ne];omega
   have hx0:¬(0:Int)<(x:Int):=by omega
   have hx1:x=0:=by omega
   have hsl:=Zow wr w.heap.size j k (by omega) (by omega);have hcv:=Zpr wr w.heap.size j l k (fun i v hv=>(hb.cell (j+i)).trans (Zqo j l i v hv));rw[hlen]at hcv
   have HF:=Qh (show l=Zdg v0 by
    rw[hd.out];unfold Zep;rw[if_neg hk];rfl)
   clear hx hx64 hk hx1;go_wp2
   go_ret
   exact⟨by rw[←HF.out];rfl,hur⟩
end
/- A number's text:the program's,and the document's;a kind's word. -/
section
open Go.RowKit
def ZcD (n:Int):List UInt8:=ZpW (decide (n<0)) n.natAbs
theorem Zpp (f u:Nat):(Zhh f u).length≤f:=by
 induction f generalizing u with
 |zero=>simp[Zhh]
 |succ f ih=>
  unfold Zhh;have:=ih (u/10)
  split<;>simp<;>omega
theorem ZkI (u:Nat):(Zdg u).length≤20:=Zpp 20 u
theorem Zd1 (n:Int):(ZcD n).length≤21:=by
 unfold ZcD ZpW;have:=ZkI n.natAbs
 split<;>simp<;>omega
set_option maxRecDepth 100000 in
set_option maxHeartbeats 1000000 in
theorem ZtJ (w:World) (n:Int) (h1: -9223372036854775808≤n) (h2:n≤9223372036854775807):
  Calls Tryz.prog 34 #[.int .i64 n] w fun e w'=>e= .returned (.string ⟨(ZcD n).toArray⟩)∧Upd No w w':=by
 obtain⟨v0,hv0⟩:∃v0,v0=n.natAbs:=⟨_,rfl⟩;have hv:v0<18446744073709551616:=by omega
 by_cases hn:n<0
 ·have HF:=Qh (show ZcD n=45::Zdg v0 by unfold ZcD;rw[decide_eq_true hn,hv0];rfl);have hwn:IntKind.u64.wrap n=18446744073709551616-(v0:Int):=by rw[IntKind.wrap_u64];omega
  have hwz:IntKind.u64.wrap (-(18446744073709551616-(v0:Int)))=(v0:Int):=by rw[IntKind.wrap_u64];omega
  have hwz2:IntKind.u64.wrap (0-(18446744073709551616-(v0:Int)))=(v0:Int):=by rw[IntKind.wrap_u64];omega
  have Hv:=Qh hv;clear hv hv0
  go_enter Tryz.func34,Tryz.ntmps34
  go_wp2_with fail
  refine(ZgR w v0 Hv.out).mono ?_;rintro e w2 ⟨rfl,hu⟩;have hmz:(⟨#[45]⟩:ByteArray).size=1:=rfl;have hl:(Zdg v0).length≤20:=ZkI v0;have hls:(⟨(Zdg v0).toArray⟩:ByteArray).size≤20:=by simpa[ByteArray.size]using hl
  go_wp2
  go_ret
  exact⟨by rw[HF.out,show(⟨#[45]⟩:ByteArray)=⟨[45].toArray⟩ from rfl,Zih];rfl,hu⟩
 ·have HF:=Qh (show ZcD n=Zdg v0 by unfold ZcD;rw[decide_eq_false hn,hv0];rfl);have hnv:n=(v0:Int):=by omega
  have hwn:IntKind.u64.wrap n=(v0:Int):=by rw[IntKind.wrap_u64];omega
  have Hv:=Qh hv;clear hv hv0 hnv
  go_enter Tryz.func34,Tryz.ntmps34
  go_wp2_with fail
  refine(ZgR w v0 Hv.out).mono ?_;rintro e w2 ⟨rfl,hu⟩;go_wp2
  go_ret
  exact⟨by rw[HF.out];rfl,hu⟩
def ZeV (k:Int):List UInt8:=if k=1 then [119,119] else if k=2 then [119,114] else if k=3 then [114,119] else [120]
set_option maxRecDepth 100000 in
theorem ZsQ (w:World) (k:Int):
  Calls Tryz.prog 35 #[.int .i64 k] w fun e w'=>e= .returned (.string ⟨(ZeV k).toArray⟩)∧Upd No w w':=by
 by_cases h1:k=1
 ·subst h1
  go_enter Tryz.func35,Tryz.ntmps35
  go_wp2
  go_ret
  exact⟨rfl,Upd.refl _ _⟩
 ·by_cases h2:k=2
  ·subst h2
   go_enter Tryz.func35,Tryz.ntmps35
   go_wp2
   go_ret
   exact⟨rfl,Upd.refl _ _⟩
  ·by_cases h3:k=3
   ·subst h3
    go_enter Tryz.func35,Tryz.ntmps35
    go_wp2
    go_ret
    exact⟨rfl,Upd.refl _ _⟩
   ·have H:=Qh (show ZeV k=[120] by unfold ZeV;rw[if_neg h1,if_neg h2,if_neg h3])
    go_enter Tryz.func35,Tryz.ntmps35
    go_wp2
    go_ret
    exact⟨by rw[H.out];rfl,Upd.refl _ _⟩
end
end Go.Proofs.YticmndpiehinjaaGreat
