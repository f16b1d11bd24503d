/- Numbers as texts: the document's digits. -/
import Derived.Lib.SlBytesRow
import Derived.Test.YtbefgiboikfojaaGreatRcac
namespace Go.Proofs.YtbefgiboikfojaaGreat
open Go.RowKit
set_option linter.unusedVariables false
set_option linter.unusedSimpArgs false
set_option maxRecDepth 100000
set_option maxHeartbeats 1000000
def ZdP:Nat->Nat->List UInt8
 |0,_=>[]
 |f+1,u=>(if u<10 then [] else ZdP f (u/10))++[UInt8.ofNat (48+u%10)]
def Zci(u:Nat):Gk:=ZdP 20 u
def Ze4(i u:Nat):Gk:=if i=0∨0<u then ZdP (20-i) u else []
theorem ZkU{i u:Nat}(hi:i<20)(h:i=0∨0<u):Ze4 i u=Ze4 (i+1) (u/10)++[UInt8.ofNat (48+u%10)]:=by
 unfold Ze4;rw[if_pos h,show 20-i=(20-(i+1))+1 by omega,ZdP]
 congr 1
 by_cases hu:u<10
 ·rw[if_pos hu,if_neg (by omega)]
 ·rw[if_neg hu,if_pos (by omega)]
theorem Zg1(x:Nat):((UInt8.ofNat (48+x%10)).toNat:Int)=48+(x:Int)%10:=by
 rw[UInt8.toNat_ofNat'];omega
theorem ZrW(w:Gy)(b o:Nat)(l:Gk)(cap:Nat)(hc:∀(i:Nat) (v:UInt8),l[i]? =some v->w.cell? ⟨b,o+i,none⟩=some (.int .u8 (v.toNat:Int))):
  (convert 77 9 (.slice (some ⟨b,o,none⟩) l.length cap)).run Tryz.prog w= .ok (.string ⟨l.toArray⟩) w:=by
 have h:=Lib.run_convert_whole (P:=Tryz.prog) w 77 5 9 Tryz.underlying77 Tryz.underlying5 Tryz.underlying9 b o ⟨l.toArray⟩ (fun i hi=>by
  have hi':i<l.length:=by simpa[ByteArray.size]using hi
  rw[hc i l[i] (Qg hi')];rfl) cap
 have hs:(⟨l.toArray⟩:Gm).size=l.length:=by simp[ByteArray.size]
 rw[hs]at h;exact h
theorem Zjz(a b:Gk):((⟨a.toArray⟩:Gm)++⟨b.toArray⟩)=⟨(a++b).toArray⟩:=by
 apply ByteArray.ext
 simp
def ZiU(neg:Bool)(u:Nat):Gk:=if neg then 45::Zci u else Zci u
/- The program's digits. -/
def ZfP(j:Nat)(l:Gk):Gl:=List.replicate j (.int .u8 0)++l.map fun b=> .int .u8 (b.toNat:Int)
theorem Zlz(m:Nat)(l:Gk)(b:UInt8):(ZfP (m+1) l).set m (.int .u8 (b.toNat:Int))=ZfP m (b::l):=by
 unfold ZfP;rw[List.replicate_succ',Fg,List.set_append_right _ _ (by simp)];simp
theorem Zka(m:Nat)(l:Gk):(ZfP (m+1) l)[m]? =some (.int .u8 0):=by
 unfold ZfP;rw[List.getElem?_append_left (by simp)];simp
theorem ZsU(j:Nat)(l:Gk)(i:Nat)(v:UInt8)(h:l[i]? =some v):(ZfP j l)[j+i]? =some (.int .u8 (v.toNat:Int)):=by
 unfold ZfP;rw[List.getElem?_append_right (by simp)];simp[h]
theorem ZqS(w:Gy)(b m n:Nat)(h:m+n=20)(hn:0<n):
  (Instr.sliceAt 162 (.pointer (some ⟨b,0,none⟩)) (some (Qi (m:Int))) none none).run Tryz.prog w= .ok (.slice (some ⟨b,m,none⟩) n n) w:=by
 have ha:Tryz.prog.arrayLen 162=20:=by kernel_rfl
 have he:Tryz.prog.elem 162=5:=by kernel_rfl
 have hs:∀w:Gy,(sizeOf 5).run Tryz.prog w= .ok 1 w:=fun w=>by kernel_rfl
 have hu:Tryz.prog.underlying 162=some (.array (Tryz.prog.arrayLen 162) (Tryz.prog.elem 162)):=by kernel_rfl
 rw[run_sliceAt_array_l w 162 ⟨b,0,none⟩ hu .i64 (m:Int) (by omega) (by rw[ha];omega),he,hs];have h1:¬20=m:=by omega
 have h2:20-m=n:=by omega
 simp[Result.andThen,slicedAt,ha,h1,h2,Addr.add];omega
theorem ZhN(w:Gy)(v0:Nat)(hv:v0<18446744073709551616):
  CN 61 #[.int .u64 (v0:Int)] w (.string ⟨(Zci v0).toArray⟩):=by
 have Hv:=Qh hv;clear hv;go_enter Tryz.func61,Tryz.ntmps61;go_wp2
 go_loopg [0,4] 20 (fun gk v i wr=>∃(k x j:Nat) (l:Gk),k+gk=20∧k+j=20∧l.length=k∧i= Qi (j:Int)∧v= .int .u64 (x:Int)∧Blk wr w.heap.size 162 (ZfP j l)∧Hid (Zci v0=Ze4 k x++l)∧Hid (x<10 ^ (20-k))∧Hid (x<18446744073709551616)∧Upd No w wr)
 case atStart=>exact⟨0,v0,20,[],by omega,by omega,rfl,rfl,rfl,Gh w 162 (ZfP 20 []),Qh (by simp[Ze4,Zci]),Qh (by have:=Hv.out;simp;omega),Qh Hv.out,(Gg _ _).alloc _⟩
 case round=>
  obtain⟨k,x,j,l,aK,wF,hlen,rfl,rfl,hb,hd,yP,lT,j9⟩:=hrel;have hx:=yP.out;have mB:=lT.out;clear yP lT
  by_cases hk:k=0∨0<x
  ·have ra:k<20:=by
    rcases Nat.lt_or_ge k 20 with h|h
    ·exact h
    ·rw[show 20-k=0 by omega]at hx;omega
   obtain⟨m,rfl⟩:∃m,j=m+1:=⟨j-1,by omega⟩
   by_cases hk0:k=0
   ·obtain⟨dg,eX⟩:∃dg,dg=UInt8.ofNat (48+x%10):=⟨_,rfl⟩;have B5:(48:Int)+(x:Int)%10=(dg.toNat:Int):=by rw[eX,Zg1]
    have kA:wr.cell? ⟨w.heap.size,m,none⟩=some (.int .u8 0):=(hb.cell m).trans (Zka m l);have vC:wr.frozen? ⟨w.heap.size,m,none⟩=false:=hb.free m;have d9:=hb.set_ m (.int .u8 (dg.toNat:Int));rw[Zlz]at d9;have vT:=j9.setCell (p:=⟨w.heap.size,m,none⟩) (.inr (Nat.le_refl _)) (.int .u8 (dg.toNat:Int))
    have rq:x/10<10 ^ (20-(k+1)):=by
     rw[show 20-k=(20-(k+1))+1 by omega,Nat.pow_succ]at hx;omega
    have HD:Hid (Zci v0=Ze4 (k+1) (x/10)++(dg::l)):=Qh (by rw[hd.out,ZkU ra hk,eX,Fg];rfl);have jj:x/10<18446744073709551616:=by omega
    have sX:IntKind.u64.wrap ((x:Int)/10)=((x/10:Nat):Int):=by
     rw[IntKind.wrap_u64];omega
    have ve:=Qh rq;have n7:=Qh jj;have fY:((m+1:Nat):Int)-1=(m:Int):=by omega
    have vM:(m:Int)<20:=by omega
    clear eX rq hx mB jj;obtain rfl:m=19:=by omega
    subst hk0;clear hk;go_wp2;go_roundg (gk-1);exact⟨0+1,x/10,19,dg::l,by omega,by omega,by simp[hlen],rfl,by first|rfl|(rw[sX]),d9,HD,ve,n7,vT⟩;omega
   ·have aQ:(0:Int)<(x:Int):=by omega
    obtain⟨dg,eX⟩:∃dg,dg=UInt8.ofNat (48+x%10):=⟨_,rfl⟩;have B5:(48:Int)+(x:Int)%10=(dg.toNat:Int):=by rw[eX,Zg1]
    have kA:wr.cell? ⟨w.heap.size,m,none⟩=some (.int .u8 0):=(hb.cell m).trans (Zka m l);have vC:wr.frozen? ⟨w.heap.size,m,none⟩=false:=hb.free m;have d9:=hb.set_ m (.int .u8 (dg.toNat:Int));rw[Zlz]at d9;have vT:=j9.setCell (p:=⟨w.heap.size,m,none⟩) (.inr (Nat.le_refl _)) (.int .u8 (dg.toNat:Int))
    have rq:x/10<10 ^ (20-(k+1)):=by
     rw[show 20-k=(20-(k+1))+1 by omega,Nat.pow_succ]at hx;omega
    have HD:Hid (Zci v0=Ze4 (k+1) (x/10)++(dg::l)):=Qh (by rw[hd.out,ZkU ra hk,eX,Fg];rfl);have jj:x/10<18446744073709551616:=by omega
    have sX:IntKind.u64.wrap ((x:Int)/10)=((x/10:Nat):Int):=by
     rw[IntKind.wrap_u64];omega
    have ve:=Qh rq;have n7:=Qh jj;have fY:((m+1:Nat):Int)-1=(m:Int):=by omega
    have vM:(m:Int)<20:=by omega
    clear eX rq hx mB jj;have e9:((m:Int)+1==20)=false:=by rw[beq_eq_false_iff_ne];omega
    clear hk hk0;go_wp2;go_roundg (gk-1);exact⟨k+1,x/10,m,dg::l,by omega,by omega,by simp[hlen],by go_num,by first|rfl|(rw[sX]),d9,HD,ve,n7,vT⟩;omega
  ·have AQ:((j:Int)==20)=false:=by rw[beq_eq_false_iff_ne];omega
   have aQ:¬(0:Int)<(x:Int):=by omega
   have cD:x=0:=by omega
   have iG:=ZqS wr w.heap.size j k (by omega) (by omega);have iq:=ZrW wr w.heap.size j l k (fun i v hv=>(hb.cell (j+i)).trans (ZsU j l i v hv));rw[hlen]at iq
   have HF:=Qh (show l=Zci v0 by
    rw[hd.out];unfold Ze4;rw[if_neg hk];rfl)
   clear hx mB hk cD;go_wp2;go_ret;exact⟨by rw[<-HF.out];rfl,j9⟩
/- A number's text:the program's,and the document's;a kind's word. -/
def Z5(n:Int):Gk:=ZiU (decide (n<0)) n.natAbs
theorem ZrU(f u:Nat):(ZdP f u).length<=f:=by
 induction f generalizing u with
 |zero=>simp[ZdP]
 |succ f ih=>
  unfold ZdP;have:=ih (u/10)
  split<;>simp<;>omega
theorem Zms(u:Nat):(Zci u).length<=20:=ZrU 20 u
theorem ZdK(n:Int):(Z5 n).length<=21:=by
 unfold Z5 ZiU;have:=Zms n.natAbs
 split<;>simp<;>omega
theorem Zwf(w:Gy)(n:Int)(h1: -9223372036854775808<=n)(h2:n<=9223372036854775807):
  CN 36 #[Qi n] w (.string ⟨(Z5 n).toArray⟩):=by
 obtain⟨v0,hv0⟩:∃v0,v0=n.natAbs:=⟨_,rfl⟩;have hv:v0<18446744073709551616:=by omega
 by_cases hn:n<0
 ·have HF:=Qh (show Z5 n=45::Zci v0 by unfold Z5;rw[Qt hn,hv0];rfl);have eB:IntKind.u64.wrap n=18446744073709551616-(v0:Int):=by rw[IntKind.wrap_u64];omega
  have g7:IntKind.u64.wrap (-(18446744073709551616-(v0:Int)))=(v0:Int):=by rw[IntKind.wrap_u64];omega
  have Cf:IntKind.u64.wrap (0-(18446744073709551616-(v0:Int)))=(v0:Int):=by rw[IntKind.wrap_u64];omega
  have Hv:=Qh hv;clear hv hv0;go_enter Tryz.func36,Tryz.ntmps36;go_wp2_with fail;refine Ck (ZhN w v0 Hv.out) fun w2 hu=>?_;have D6:(⟨#[45]⟩:Gm).size=1:=rfl;have hl:(Zci v0).length<=20:=Zms v0;have Eb:(⟨(Zci v0).toArray⟩:Gm).size<=20:=by simpa[ByteArray.size]using hl
  go_wp2;go_ret;exact⟨by rw[HF.out,show(⟨#[45]⟩:Gm)=⟨[45].toArray⟩ from rfl,Zjz];rfl,hu⟩
 ·have HF:=Qh (show Z5 n=Zci v0 by unfold Z5;rw[Qf hn,hv0];rfl);have jy:n=(v0:Int):=by omega
  have eB:IntKind.u64.wrap n=(v0:Int):=by rw[IntKind.wrap_u64];omega
  have Hv:=Qh hv;clear hv hv0 jy;go_enter Tryz.func36,Tryz.ntmps36;go_wp2_with fail;refine Ck (ZhN w v0 Hv.out) fun w2 hu=>?_;go_wp2;go_ret;exact⟨by rw[HF.out];rfl,hu⟩
def ZcH(k:Int):Gk:=if k=1 then [119,119] else if k=2 then [119,114] else if k=3 then [114,119] else [120]
theorem Zvl(w:Gy)(k:Int):
  CN 48 #[Qi k] w (.string ⟨(ZcH k).toArray⟩):=by
 by_cases h1:k=1
 ·subst h1;go_enter Tryz.func48,Tryz.ntmps48;go_wp2;go_ret;exact⟨rfl,Gg _ _⟩
 ·by_cases h2:k=2
  ·subst h2;go_enter Tryz.func48,Tryz.ntmps48;go_wp2;go_ret;exact⟨rfl,Gg _ _⟩
  ·by_cases h3:k=3
   ·subst h3;go_enter Tryz.func48,Tryz.ntmps48;go_wp2;go_ret;exact⟨rfl,Gg _ _⟩
   ·have H:=Qh (show ZcH k=[120] by unfold ZcH;rw[if_neg h1,if_neg h2,if_neg h3]);go_enter Tryz.func48,Tryz.ntmps48;go_wp2;go_ret;exact⟨by rw[H.out];rfl,Gg _ _⟩
