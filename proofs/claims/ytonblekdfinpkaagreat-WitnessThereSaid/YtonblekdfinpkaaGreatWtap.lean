/- Numbers as texts: the document's digits. -/
import Derived.Test.YtonblekdfinpkaaGreatProg
import Derived.IntWalk
import Derived.Lib.SlBytesRow
import Derived.Test.YtonblekdfinpkaaGreatWtai
namespace Go.Proofs.YtonblekdfinpkaaGreat
set_option linter.unusedVariables false
set_option linter.unusedSimpArgs false
section
open Go.RowKit
def ZhB:Nat→Nat→List UInt8
 |0,_=>[]
 |f+1,u=>(if u<10 then [] else ZhB f (u/10))++[UInt8.ofNat (48+u%10)]
def Zdm (u:Nat):List UInt8:=ZhB 20 u
def ZeD (i u:Nat):List UInt8:=if i=0∨0<u then ZhB (20-i) u else []
theorem Zkg {i u:Nat} (hi:i<20) (h:i=0∨0<u):ZeD i u=ZeD (i+1) (u/10)++[UInt8.ofNat (48+u%10)]:=by
 unfold ZeD;rw[if_pos h,show 20-i=(20-(i+1))+1 by omega,ZhB]
 congr 1
 by_cases hu:u<10
 ·rw[if_pos hu,if_neg (by omega)]
 ·rw[if_neg hu,if_pos (by omega)]
theorem Zkd (x:Nat):((UInt8.ofNat (48+x%10)).toNat:Int)=48+(x:Int)%10:=by
 rw[UInt8.toNat_ofNat'];omega
theorem Zrd (w:World) (b o:Nat) (l:List UInt8) (cap:Nat) (hc:∀(i:Nat) (v:UInt8),l[i]? =some v→w.cell? ⟨b,o+i,none⟩=some (.int .u8 (v.toNat:Int))):
  (convert 151 9 (.slice (some ⟨b,o,none⟩) l.length cap)).run Tryz.prog w= .ok (.string ⟨l.toArray⟩) w:=by
 have h:=Lib.run_convert_whole (P:=Tryz.prog) w 151 5 9 Tryz.underlying151 Tryz.underlying5 Tryz.underlying9 b o ⟨l.toArray⟩ (fun i hi=>by
  have hi':i<l.length:=by simpa[ByteArray.size]using hi
  rw[hc i l[i] (Qg hi')];rfl) cap
 have hs:(⟨l.toArray⟩:ByteArray).size=l.length:=by simp[ByteArray.size]
 rw[hs]at h;exact h
theorem ZiW (a b:List UInt8):((⟨a.toArray⟩:ByteArray)++⟨b.toArray⟩)=⟨(a++b).toArray⟩:=by
 apply ByteArray.ext
 simp
def ZrG (neg:Bool) (u:Nat):List UInt8:=if neg then 45::Zdm u else Zdm u
end
/- The program's digits. -/
section
open Go.RowKit
def Zfm (j:Nat) (l:List UInt8):List Value:=List.replicate j (.int .u8 0)++l.map fun b=> .int .u8 (b.toNat:Int)
theorem ZkT (m:Nat) (l:List UInt8) (b:UInt8):(Zfm (m+1) l).set m (.int .u8 (b.toNat:Int))=Zfm m (b::l):=by
 unfold Zfm;rw[List.replicate_succ',List.append_assoc,List.set_append_right _ _ (by simp)];simp
theorem Zjw (m:Nat) (l:List UInt8):(Zfm (m+1) l)[m]? =some (.int .u8 0):=by
 unfold Zfm;rw[List.getElem?_append_left (by simp)];simp
theorem Zsi (j:Nat) (l:List UInt8) (i:Nat) (v:UInt8) (h:l[i]? =some v):(Zfm j l)[j+i]? =some (.int .u8 (v.toNat:Int)):=by
 unfold Zfm;rw[List.getElem?_append_right (by simp)];simp[h]
theorem Zqj (w:World) (b m n:Nat) (h:m+n=20) (hn:0<n):
  (Instr.sliceAt 288 (.pointer (some ⟨b,0,none⟩)) (some (.int .i64 (m:Int))) none none).run Tryz.prog w= .ok (.slice (some ⟨b,m,none⟩) n n) w:=by
 have ha:Tryz.prog.arrayLen 288=20:=by kernel_rfl
 have he:Tryz.prog.elem 288=5:=by kernel_rfl
 have hs:∀w:World,(sizeOf 5).run Tryz.prog w= .ok 1 w:=fun w=>by kernel_rfl
 have hu:Tryz.prog.underlying 288=some (.array (Tryz.prog.arrayLen 288) (Tryz.prog.elem 288)):=by kernel_rfl
 rw[run_sliceAt_array_l w 288 ⟨b,0,none⟩ hu .i64 (m:Int) (by omega) (by rw[ha];omega),he,hs];have h1:¬20=m:=by omega
 have h2:20-m=n:=by omega
 simp[Result.andThen,slicedAt,ha,h1,h2,Addr.add];omega
set_option maxRecDepth 100000 in
set_option maxHeartbeats 1000000 in
theorem Zg1 (w:World) (v0:Nat) (hv:v0<18446744073709551616):
  Calls Tryz.prog 173 #[.int .u64 (v0:Int)] w fun e w'=>e= .returned (.string ⟨(Zdm v0).toArray⟩)∧Upd No w w':=by
 have Hv:=Qh hv;clear hv
 go_enter Tryz.func173,Tryz.ntmps173
 go_wp2
 go_loopg [0,4] 20 (fun gk v i wr=>∃(k x j:Nat) (l:List UInt8),k+gk=20∧k+j=20∧l.length=k∧i= .int .i64 (j:Int)∧v= .int .u64 (x:Int)∧Blk wr w.heap.size 288 (Zfm j l)∧Hid (Zdm v0=ZeD k x++l)∧Hid (x<10 ^ (20-k))∧Hid (x<18446744073709551616)∧Upd No w wr)
 case atStart=>exact⟨0,v0,20,[],by omega,by omega,rfl,rfl,rfl,Blk.new w 288 (Zfm 20 []),Qh (by simp[ZeD,Zdm]),Qh (by have:=Hv.out;simp;omega),Qh Hv.out,(Upd.refl _ _).alloc _⟩
 case round=>
  obtain⟨k,x,j,l,hgk,hkj,hlen,rfl,rfl,hb,hd,hx',hx64',hur⟩:=hrel;have hx:=hx'.out;have hx64:=hx64'.out;clear hx' hx64'
  by_cases hk:k=0∨0<x
  ·have hk20:k<20:=by
    rcases Nat.lt_or_ge k 20 with h|h
    ·exact h
    ·rw[show 20-k=0 by omega]at hx;omega
   obtain⟨m,rfl⟩:∃m,j=m+1:=⟨j-1,by omega⟩
   by_cases hk0:k=0
   ·obtain⟨dg,hdg⟩:∃dg,dg=UInt8.ofNat (48+x%10):=⟨_,rfl⟩;have hdi:(48:Int)+(x:Int)%10=(dg.toNat:Int):=by rw[hdg,Zkd]
    have hc0:wr.cell? ⟨w.heap.size,m,none⟩=some (.int .u8 0):=(hb.cell m).trans (Zjw m l);have hf0:wr.frozen? ⟨w.heap.size,m,none⟩=false:=hb.free m;have hb':=hb.set_ m (.int .u8 (dg.toNat:Int));rw[ZkT]at hb';have hu':=hur.setCell (p:=⟨w.heap.size,m,none⟩) (.inr (Nat.le_refl _)) (.int .u8 (dg.toNat:Int))
    have hxk:x/10<10 ^ (20-(k+1)):=by
     rw[show 20-k=(20-(k+1))+1 by omega,Nat.pow_succ]at hx;omega
    have HD:Hid (Zdm v0=ZeD (k+1) (x/10)++(dg::l)):=Qh (by rw[hd.out,Zkg hk20 hk,hdg,List.append_assoc];rfl);have hx10:x/10<18446744073709551616:=by omega
    have hdv:IntKind.u64.wrap ((x:Int)/10)=((x/10:Nat):Int):=by
     rw[IntKind.wrap_u64];omega
    have Hxk:=Qh hxk;have Hx64:=Qh hx10;have hm1:((m+1:Nat):Int)-1=(m:Int):=by omega
    have hm20:(m:Int)<20:=by omega
    clear hdg hxk hx hx64 hx10;obtain rfl:m=19:=by omega
    subst hk0;clear hk;go_wp2
    go_roundg (gk-1)
    case measure=>omega
    case rel=>exact⟨0+1,x/10,19,dg::l,by omega,by omega,by simp[hlen],rfl,by first|rfl|(rw[hdv]),hb',HD,Hxk,Hx64,hu'⟩
   ·have hx0:(0:Int)<(x:Int):=by omega
    obtain⟨dg,hdg⟩:∃dg,dg=UInt8.ofNat (48+x%10):=⟨_,rfl⟩;have hdi:(48:Int)+(x:Int)%10=(dg.toNat:Int):=by rw[hdg,Zkd]
    have hc0:wr.cell? ⟨w.heap.size,m,none⟩=some (.int .u8 0):=(hb.cell m).trans (Zjw m l);have hf0:wr.frozen? ⟨w.heap.size,m,none⟩=false:=hb.free m;have hb':=hb.set_ m (.int .u8 (dg.toNat:Int));rw[ZkT]at hb';have hu':=hur.setCell (p:=⟨w.heap.size,m,none⟩) (.inr (Nat.le_refl _)) (.int .u8 (dg.toNat:Int))
    have hxk:x/10<10 ^ (20-(k+1)):=by
     rw[show 20-k=(20-(k+1))+1 by omega,Nat.pow_succ]at hx;omega
    have HD:Hid (Zdm v0=ZeD (k+1) (x/10)++(dg::l)):=Qh (by rw[hd.out,Zkg hk20 hk,hdg,List.append_assoc];rfl);have hx10:x/10<18446744073709551616:=by omega
    have hdv:IntKind.u64.wrap ((x:Int)/10)=((x/10:Nat):Int):=by
     rw[IntKind.wrap_u64];omega
    have Hxk:=Qh hxk;have Hx64:=Qh hx10;have hm1:((m+1:Nat):Int)-1=(m:Int):=by omega
    have hm20:(m:Int)<20:=by omega
    clear hdg hxk hx hx64 hx10;have hkb:((m:Int)+1==20)=false:=by rw[beq_eq_false_iff_ne];omega
    clear hk hk0;go_wp2
    go_roundg (gk-1)
    case measure=>omega
    case rel=>exact⟨k+1,x/10,m,dg::l,by omega,by omega,by simp[hlen],by go_num,by first|rfl|(rw[hdv]),hb',HD,Hxk,Hx64,hu'⟩
  ·have hj20:((j:Int)==20)=false:=by rw[beq_eq_false_iff_ne];omega
   have hx0:¬(0:Int)<(x:Int):=by omega
   have hx1:x=0:=by omega
   have hsl:=Zqj wr w.heap.size j k (by omega) (by omega);have hcv:=Zrd wr w.heap.size j l k (fun i v hv=>(hb.cell (j+i)).trans (Zsi j l i v hv));rw[hlen]at hcv
   have HF:=Qh (show l=Zdm v0 by
    rw[hd.out];unfold ZeD;rw[if_neg hk];rfl)
   clear hx hx64 hk hx1;go_wp2
   go_ret
   exact⟨by rw[←HF.out];rfl,hur⟩
end
/- A number's text:the program's,and the document's;a kind's word. -/
section
open Go.RowKit
def ZcM (n:Int):List UInt8:=ZrG (decide (n<0)) n.natAbs
theorem Zra (f u:Nat):(ZhB f u).length≤f:=by
 induction f generalizing u with
 |zero=>simp[ZhB]
 |succ f ih=>
  unfold ZhB;have:=ih (u/10)
  split<;>simp<;>omega
theorem ZlR (u:Nat):(Zdm u).length≤20:=Zra 20 u
theorem Zeh (n:Int):(ZcM n).length≤21:=by
 unfold ZcM ZrG;have:=ZlR n.natAbs
 split<;>simp<;>omega
set_option maxRecDepth 100000 in
set_option maxHeartbeats 1000000 in
theorem Zvm (w:World) (n:Int) (h1: -9223372036854775808≤n) (h2:n≤9223372036854775807):
  Calls Tryz.prog 98 #[.int .i64 n] w fun e w'=>e= .returned (.string ⟨(ZcM n).toArray⟩)∧Upd No w w':=by
 obtain⟨v0,hv0⟩:∃v0,v0=n.natAbs:=⟨_,rfl⟩;have hv:v0<18446744073709551616:=by omega
 by_cases hn:n<0
 ·have HF:=Qh (show ZcM n=45::Zdm v0 by unfold ZcM;rw[decide_eq_true hn,hv0];rfl);have hwn:IntKind.u64.wrap n=18446744073709551616-(v0:Int):=by rw[IntKind.wrap_u64];omega
  have hwz:IntKind.u64.wrap (-(18446744073709551616-(v0:Int)))=(v0:Int):=by rw[IntKind.wrap_u64];omega
  have hwz2:IntKind.u64.wrap (0-(18446744073709551616-(v0:Int)))=(v0:Int):=by rw[IntKind.wrap_u64];omega
  have Hv:=Qh hv;clear hv hv0
  go_enter Tryz.func98,Tryz.ntmps98
  go_wp2_with fail
  refine(Zg1 w v0 Hv.out).mono ?_;rintro e w2 ⟨rfl,hu⟩;have hmz:(⟨#[45]⟩:ByteArray).size=1:=rfl;have hl:(Zdm v0).length≤20:=ZlR v0;have hls:(⟨(Zdm v0).toArray⟩:ByteArray).size≤20:=by simpa[ByteArray.size]using hl
  go_wp2
  go_ret
  exact⟨by rw[HF.out,show(⟨#[45]⟩:ByteArray)=⟨[45].toArray⟩ from rfl,ZiW];rfl,hu⟩
 ·have HF:=Qh (show ZcM n=Zdm v0 by unfold ZcM;rw[decide_eq_false hn,hv0];rfl);have hnv:n=(v0:Int):=by omega
  have hwn:IntKind.u64.wrap n=(v0:Int):=by rw[IntKind.wrap_u64];omega
  have Hv:=Qh hv;clear hv hv0 hnv
  go_enter Tryz.func98,Tryz.ntmps98
  go_wp2_with fail
  refine(Zg1 w v0 Hv.out).mono ?_;rintro e w2 ⟨rfl,hu⟩;go_wp2
  go_ret
  exact⟨by rw[HF.out];rfl,hu⟩
def Zfe (k:Int):List UInt8:=if k=1 then [119,119] else if k=2 then [119,114] else if k=3 then [114,119] else [120]
set_option maxRecDepth 100000 in
theorem Zut (w:World) (k:Int):
  Calls Tryz.prog 99 #[.int .i64 k] w fun e w'=>e= .returned (.string ⟨(Zfe k).toArray⟩)∧Upd No w w':=by
 by_cases h1:k=1
 ·subst h1
  go_enter Tryz.func99,Tryz.ntmps99
  go_wp2
  go_ret
  exact⟨rfl,Upd.refl _ _⟩
 ·by_cases h2:k=2
  ·subst h2
   go_enter Tryz.func99,Tryz.ntmps99
   go_wp2
   go_ret
   exact⟨rfl,Upd.refl _ _⟩
  ·by_cases h3:k=3
   ·subst h3
    go_enter Tryz.func99,Tryz.ntmps99
    go_wp2
    go_ret
    exact⟨rfl,Upd.refl _ _⟩
   ·have H:=Qh (show Zfe k=[120] by unfold Zfe;rw[if_neg h1,if_neg h2,if_neg h3])
    go_enter Tryz.func99,Tryz.ntmps99
    go_wp2
    go_ret
    exact⟨by rw[H.out];rfl,Upd.refl _ _⟩
end
end Go.Proofs.YtonblekdfinpkaaGreat
