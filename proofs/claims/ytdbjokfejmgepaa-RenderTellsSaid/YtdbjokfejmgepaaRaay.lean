/- The kinds of a phenomenon; who is next in an order. -/
import Derived.Lib.Slices
import Derived.Test.YtdbjokfejmgepaaProg
import Derived.Test.YtdbjokfejmgepaaRaam
import Derived.Test.YtdbjokfejmgepaaRaax
namespace Go.Proofs.Ytdbjokfejmgepaa
set_option linter.unusedVariables false
set_option linter.unusedSimpArgs false
section
open Go.RowKit
def ZaT (p:Int):Int:=if p=1 then 2 else if p=4 then 6 else if p=5 then 14 else 0
def ZbS (p:Int):Int:=if p=5 then 8 else 0
def Zai (l:List Int) (x:Int):Nat:=l.findIdx (·==x)
def ZQ (l:List Int) (tx:Int):Option Int:=if tx=0 then l[0]? else if Zai l tx<l.length then l[Zai l tx+1]? else none
def Zj0 (w:World) (o:Option Int) (e:Ending) (w':World):Prop:=e= .returned (match o with|some x=> .tuple #[.int .i64 x,.bool true]|none=> .tuple #[.int .i64 0,.bool false])∧Upd No w w'
end
/- The order of a key. -/
section
open Go.RowKit
def ZeO (l:List HOrd) (key:Int):Nat:=l.findIdx fun o=>o.key==key
theorem Zkp {l:List HOrd} {key:Int} {k:Nat} (hk:k<l.length) (h:∀(j:Nat) (hj:j<k),((l[j]'(by omega)).key==key)=false) (h1:(l[k].key==key)=true):ZeO l key=k:=by
 unfold ZeO;rw[List.findIdx_eq hk];exact⟨h1,fun j hj=>by simp only[h j hj]⟩
def Zb5 (l:List HOrd) (key:Int):List Int:=match l[ZeO l key]? with|some o=>o.txs|none=>[]
end
/- The document on histories:orders,writers,keys. -/
section
open Go.RowKit
def Zdv (key:Int):List HOrd→List Int
 |[]=>[]
 |o::l=>if o.key=key then o.txs else Zdv key l
theorem Zgq (key:Int) (o:HOrd) (l:List HOrd):Zdv key (o::l)=if o.key=key then o.txs else Zdv key l:=rfl
theorem Zim (key:Int):∀l:List HOrd,Zdv key l=Zb5 l key
 |[]=>rfl
 |o::l=>by
  have ih:=Zim key l;rw[Zgq,ih];unfold Zb5 ZeO;rw[List.findIdx_cons]
  by_cases h:o.key=key
  ·rw[if_pos h,show(o.key==key)=true by simpa using h];rfl
  ·rw[if_neg h,show(o.key==key)=false by simpa using h];rfl
def Zn9 (F:Nat→Prop) (w:World) (l:List Int) (e:Ending) (w':World):Prop:=∃A c,e= .returned (.slice A l.length c)∧Ints F w' A l∧l.length≤17592186044415∧Upd No w w'
set_option maxRecDepth 100000 in
theorem Zmo (F:Nat→Prop) (w:World) (txs:List HTx) (ords:List HOrd) (A:Option Addr) (c:Nat) (B:Option Addr) (d:Nat) (key:Int) (H:Hist.lies F w ⟨txs,ords,A,c,B,d⟩):
  Calls Try.prog 85 #[.agg #[.slice A txs.length c,.slice B ords.length d],.int .i64 key] w (Zn9 F w (Zdv key ords)):=by
 have hfo:=H.fewo;simp only at hfo
 go_enter Try.func85,Try.ntmps85
 go_wp2
 go_loopg [10] ords.length (fun gk i wr=>∃(k:Nat),k+gk=ords.length∧i= .int .i64 k∧Hid (Zdv key (ords.drop k)=Zdv key ords)∧Upd No w wr)
 case atStart=>exact⟨0,by omega,rfl,Qh rfl,(Upd.refl No w).alloc _⟩
 case round=>
  obtain⟨k,hgk,rfl,hs,hu⟩:=hrel
  by_cases hlt:k<ords.length
  ·obtain⟨ad,hAd,q0,q1⟩:=(H.upd hu (fun _ _=>id)).ord_at hlt;have hlo:=H.ord ords[k] (List.getElem_mem hlt);simp only at hAd q0 q1;obtain⟨x,hx⟩:∃x,ords[k]=x:=⟨_,rfl⟩;rw[hx]at q0 q1 hlo;subst hAd;have X:=Qh (show ords.drop k=x::ords.drop (k+1) by rw[←hx];exact List.drop_eq_getElem_cons hlt);have HL:=Qh hlo;have b1:(0:Int)≤(k:Int):=Qn _;have b2:(k:Int)<(ords.length:Int):=by omega
   have uA:=hu.alloc (.cells #[.int .i64 x.key,.slice x.A x.txs.length x.c] 52);have hst:=hs.out;rw[X.out,Zgq]at hst;clear hx hlo
   by_cases he:x.key=key
   ·have heb:(x.key==key)=true:=by simpa using he
    rw[if_pos he]at hst;have HS:=Qh hst;clear hst he;go_wp2
    go_ret
    exact⟨x.A,x.c,by rw[←HS.out];rfl,by rw[←HS.out];exact HL.out.1.upd uA (fun _ _=>id),by rw[←HS.out];exact HL.out.2.2.1,uA⟩
   ·have heb:(x.key==key)=false:=by simpa using he
    rw[if_neg he]at hst;have HS:=Qh hst;clear hst he;go_wp2
    go_roundg (gk-1)
    case measure=>omega
    case rel=>exact⟨k+1,by omega,by go_num,HS,uA⟩
  ·obtain rfl:k=ords.length:=by omega
   have HS:=Qh (show([]:List Int)=Zdv key ords by rw[←hs.out,List.drop_length];rfl);go_wp2
   go_ret
   exact⟨none,0,by rw[←HS.out];rfl,by rw[←HS.out];exact Ints.nil_,by rw[←HS.out];simp,hu⟩
def wrS (key:Int) (acc:List Int):List HTx→List Int
 |[]=>acc
 |t::l=>wrS key (if t.done&&decide (0<Ze t.ops key) then acc++[t.id] else acc) l
theorem ZeJ (key:Int) (acc:List Int) (t:HTx) (l:List HTx):wrS key acc (t::l)=wrS key (if t.done&&decide (0<Ze t.ops key) then acc++[t.id] else acc) l:=rfl
set_option maxRecDepth 100000 in
set_option maxHeartbeats 1000000 in
theorem Zkg (F:Nat→Prop) (w:World) (txs:List HTx) (ords:List HOrd) (A:Option Addr) (c:Nat) (B:Option Addr) (d:Nat) (key:Int) (H:Hist.lies F w ⟨txs,ords,A,c,B,d⟩):
  Calls Try.prog 74 #[.agg #[.slice A txs.length c,.slice B ords.length d],.int .i64 key] w (Ze8 w (wrS key [] txs)):=by
 have hfo:=H.few;simp only at hfo
 go_enter Try.func74,Try.ntmps74
 go_wp2
 go_loopg [5,11] txs.length (fun gk s i wr=>∃(k:Nat) (A3:Option Addr) (c3:Nat) (xs:List Int),k+gk=txs.length∧i= .int .i64 k∧s= .slice A3 xs.length c3∧Hid (wrS key xs (txs.drop k)=wrS key [] txs)∧xs.length≤k∧
  Hid (wr.ownsRow w.heap.size 3 1 (.slice A3 xs.length c3) xs.length (xs.map (Value.int .i64)))∧Upd No w wr)
 case atStart=>exact⟨0,none,0,[],by omega,rfl,rfl,Qh rfl,by simp,Qh (World.ownsRow_nil _ _ _ _),(Upd.refl No w).alloc _⟩
 case round=>
  obtain⟨k,A3,c3,xs,hgk,rfl,rfl,hs,hxl,hown,hu⟩:=hrel
  by_cases hlt:k<txs.length
  ·obtain⟨ad,hAd,q0,q1,q2⟩:=(H.upd hu (fun _ _=>id)).tx_at hlt;have hlo:=H.tx txs[k] (List.getElem_mem hlt);simp only at hAd q0 q1 q2;obtain⟨x,hx⟩:∃x,txs[k]=x:=⟨_,rfl⟩;rw[hx]at q0 q1 q2 hlo;obtain⟨xi,xd,xo,xA,xc⟩:=x;simp only at q0 q1 q2;subst hAd;have X:=Qh (show txs.drop k=⟨xi,xd,xo,xA,xc⟩::txs.drop (k+1) by rw[←hx];exact List.drop_eq_getElem_cons hlt);have HL:=Qh hlo;have XM:=Qh (show(⟨xi,xd,xo,xA,xc⟩:HTx)∈txs by rw[←hx];exact List.getElem_mem hlt);have b1:(0:Int)≤(k:Int):=Qn _;have b2:(k:Int)<(txs.length:Int):=by omega
   have uA:=hu.alloc (.cells #[.int .i64 xi,.bool xd,.slice xA xo.length xc] 35);clear hx hlo;have hst:=hs.out;rw[X.out,ZeJ]at hst;have HST:=Qh hst;have bb:=Blk.new wr 35 [.int .i64 xi,.bool xd,.slice xA xo.length xc];have hz:=hu.size;have HO:=Qh (Zc hown.out ((Upd.refl No wr).alloc (.cells #[.int .i64 xi,.bool xd,.slice xA xo.length xc] 35)) (fun _ _=>id));have BB:=Qh bb;clear hst bb
   cases xd
   ·have HS:=Qh (show wrS key xs (txs.drop (k+1))=wrS key [] txs from HST.out);go_wp2
    go_roundg (gk-1)
    case measure=>omega
    case rel=>exact⟨k+1,A3,c3,xs,by omega,by go_num,rfl,HS,by omega,HO,uA⟩
   ·have e2:(wr.alloc (.cells #[.int .i64 xi,.bool true,.slice xA xo.length xc] 35)).cell? ⟨wr.heap.size,0,none⟩=some (.int .i64 xi):=BB.out.cell 0
    go_wp2_with fail
    refine(Za8 F _ xA xc xo key (HOps.upd HL.out.1 uA (fun _ _=>id)) HL.out.2.2.1).mono ?_;rintro e w1 ⟨rfl,hu1⟩;have e0:w1.cell? ⟨wr.heap.size,0,none⟩=some (.int .i64 xi):=(BB.out.upd hu1 id).cell 0;have HO1:=Zc HO.out hu1 (fun _ _=>id);have hz1:=hu1.size;simp only[World.size_alloc]at hz1;have HU:=Qh (uA.trans hu1);clear hu1 e2
    by_cases hw:0<Ze xo key
    ·have HS:=Qh (show wrS key (xs++[xi]) (txs.drop (k+1))=wrS key [] txs by rw[←HST.out,decide_eq_true hw];rfl);have hwd:decide ((0:Int)<((Ze xo key:Nat):Int))=true:=decide_eq_true (by omega);have hwd2:decide (0<Ze xo key)=true:=decide_eq_true hw;clear hw
     go_wp2_with (at_builtin;refine ZS rfl rfl Zbr (v:= .slice A3 xs.length c3) (cells:=[.int .i64 xi]) (by rfl) rfl HO1 rfl rfl (by omega) (by omega) (by omega) ?_;intro g' c' w4 hown4 hu4 hg4 hlt4)
     go_roundg (gk-1)
     case measure=>omega
     case rel=>exact⟨k+1,some ⟨g',0,none⟩,c',xs++[xi],by omega,by go_num,by simp,HS,by simp;omega,Qh (by simpa using hown4),HU.out.then_ hu4 fun i e=> .inr (HO1.lt i e).1⟩
    ·have HS:=Qh (show wrS key xs (txs.drop (k+1))=wrS key [] txs by rw[←HST.out,decide_eq_false hw];rfl);have hwd:decide ((0:Int)<((Ze xo key:Nat):Int))=false:=decide_eq_false (by omega);have hwd2:decide (0<Ze xo key)=false:=decide_eq_false hw;clear hw;go_wp2
     go_roundg (gk-1)
     case measure=>omega
     case rel=>exact⟨k+1,A3,c3,xs,by omega,by go_num,rfl,HS,by omega,Qh HO1,HU.out⟩
  ·obtain rfl:k=txs.length:=by omega
   have HV:=Qh (show xs=wrS key [] txs by rw[←hs.out,List.drop_length];rfl);go_wp2
   go_ret
   exact⟨A3,c3,by rw[←HV.out];rfl,by rw[←HV.out];exact hown.out,hu⟩
end
/- The document on histories:the keys that are written;whether one is right. -/
section
open Go.RowKit
theorem ZiI {w':World} {base:Nat} {A:Option Addr} {c:Nat} {l:List Int} (h:w'.ownsRow base 3 1 (.slice A l.length c) l.length (l.map (Value.int .i64))):Ints (fun i=>base≤i) w' A l:=Ints.of_own h
def ZZ (s:List Int):List HTx→List Int
 |[]=>s
 |t::l=>ZZ (if t.done then Zt s (Zaw false [] t.ops) else s) l
theorem ZeE (s:List Int) (t:HTx) (l:List HTx):ZZ s (t::l)=ZZ (if t.done then Zt s (Zaw false [] t.ops) else s) l:=rfl
theorem Zh3 (s:List Int) (k:Int) (l:List Int):Zt s (k::l)=Zt (Zd k s) l:=rfl
theorem ZgB (tch:Bool):∀(l:List HOp) (s:List Int),(Zaw tch s l).length≤s.length+l.length
 |[],s=>by simp[Zaw]
 |o::l,s=>by
  rw[ZdE];have:=ZgB tch l (if tch|| !o.read then Zd o.key s else s)
  have h2:(if tch|| !o.read then Zd o.key s else s).length≤s.length+1:=by
   split
   ·exact Zk _ _
   ·omega
  rw[List.length_cons];omega
set_option maxRecDepth 100000 in
set_option maxHeartbeats 1000000 in
theorem Zmr (F:Nat→Prop) (w:World) (txs:List HTx) (ords:List HOrd) (A:Option Addr) (c:Nat) (B:Option Addr) (d:Nat) (H:Hist.lies F w ⟨txs,ords,A,c,B,d⟩) (hn:txs.length≤4096) (ho:∀t∈txs,t.ops.length≤4095):
  Calls Try.prog 72 #[.agg #[.slice A txs.length c,.slice B ords.length d]] w (Ze8 w (ZZ [] txs)):=by
 go_enter Try.func72,Try.ntmps72
 go_wp2
 go_loopg [3,11] txs.length (fun gk s i wr=>∃(k:Nat) (A3:Option Addr) (c3:Nat) (xs:List Int),k+gk=txs.length∧i= .int .i64 k∧s= .slice A3 xs.length c3∧Hid (ZZ xs (txs.drop k)=ZZ [] txs)∧xs.length≤4095*k∧
  Hid (wr.ownsRow w.heap.size 3 1 (.slice A3 xs.length c3) xs.length (xs.map (Value.int .i64)))∧Upd No w wr)
 case atStart=>exact⟨0,none,0,[],by omega,rfl,rfl,Qh rfl,by simp,Qh (World.ownsRow_nil _ _ _ _),(Upd.refl No w).alloc _⟩
 case round=>
  obtain⟨k,A3,c3,xs,hgk,rfl,rfl,hs,hxl,hown,hu⟩:=hrel
  by_cases hlt:k<txs.length
  ·obtain⟨ad,hAd,q0,q1,q2⟩:=(H.upd hu (fun _ _=>id)).tx_at hlt;have hlo:=H.tx txs[k] (List.getElem_mem hlt);simp only at hAd q0 q1 q2;obtain⟨x,hx⟩:∃x,txs[k]=x:=⟨_,rfl⟩;rw[hx]at q0 q1 q2 hlo;obtain⟨xi,xd,xo,xA,xc⟩:=x;simp only at q0 q1 q2;subst hAd;have X:=Qh (show txs.drop k=⟨xi,xd,xo,xA,xc⟩::txs.drop (k+1) by rw[←hx];exact List.drop_eq_getElem_cons hlt);have HL:=Qh hlo;have XM:=Qh (show(⟨xi,xd,xo,xA,xc⟩:HTx)∈txs by rw[←hx];exact List.getElem_mem hlt);have b1:(0:Int)≤(k:Int):=Qn _;have b2:(k:Int)<(txs.length:Int):=by omega
   have uA:=hu.alloc (.cells #[.int .i64 xi,.bool xd,.slice xA xo.length xc] 35);clear hx hlo;have hst:=hs.out;rw[X.out,ZeE]at hst;have HST:=Qh hst;have hz:=hu.size;have HO:=Qh (Zc hown.out ((Upd.refl No wr).alloc (.cells #[.int .i64 xi,.bool xd,.slice xA xo.length xc] 35)) (fun _ _=>id));have hol:=ho _ XM.out;simp only at hol;clear hst
   cases xd
   ·have HS:=Qh (show ZZ xs (txs.drop (k+1))=ZZ [] txs from HST.out);go_wp2
    go_roundg (gk-1)
    case measure=>omega
    case rel=>exact⟨k+1,A3,c3,xs,by omega,by go_num,rfl,HS,by omega,HO,uA⟩
   ·have hkl:=ZgB false xo [];have HK:=Qh (Zno F _ xi true xA xc xo false (HOps.upd HL.out.1 uA (fun _ _=>id)) (by omega));have HS0:=Qh (show ZZ (Zt xs (Zaw false [] xo)) (txs.drop (k+1))=ZZ [] txs from HST.out);obtain⟨ks,hks⟩:∃ks,Zaw false [] xo=ks:=⟨_,rfl⟩;rw[hks]at HK HS0 hkl;simp only[List.length_nil,Nat.zero_add]at hkl;clear hks
    go_wp2_with fail
    refine(HK.out).mono ?_;rintro e w1 ⟨A5,c5,rfl,ho5,hu1⟩;have HI:=Qh (Zco ho5);have HO1:=Qh (Zc HO.out hu1 (fun _ _=>id));have HU:=Qh (uA.trans hu1);clear ho5 hu1
    generalize gk=m0 at*
    go_wp2
    go_loopg [3,20] ks.length (fun gm s i w2=>∃(j:Nat) (A4:Option Addr) (c4:Nat) (ys:List Int),j+gm=ks.length∧i= .int .i64 j∧s= .slice A4 ys.length c4∧Hid (Zt ys (ks.drop j)=Zt xs ks)∧ys.length≤xs.length+j∧
     Hid (w2.ownsRow w.heap.size 3 1 (.slice A4 ys.length c4) ys.length (ys.map (Value.int .i64)))∧Upd No w1 w2)
    case atStart=>exact⟨0,A3,c3,xs,by omega,rfl,rfl,Qh rfl,by omega,HO1,Upd.refl _ _⟩
    case round=>
     obtain⟨j,A4,c4,ys,hgm,rfl,rfl,hs2,hyl,hown2,hu2⟩:=hrel
     by_cases hlt2:j<ks.length
     ·obtain⟨ad2,hA2,_,_,hc2⟩:=(HI.out.upd hu2 (fun _ _=>id)).at_ hlt2;obtain⟨y,hy⟩:∃y,ks[j]=y:=⟨_,rfl⟩;rw[hy]at hc2;subst hA2;have Y:=Qh (show ks.drop j=y::ks.drop (j+1) by rw[←hy];exact List.drop_eq_getElem_cons hlt2);have c1:(0:Int)≤(j:Int):=Qn _;have c2:(j:Int)<(ks.length:Int):=by omega
      have hst:=hs2.out;rw[Y.out,Zh3]at hst;have HS:=Qh hst;have hpl:=Zk y ys;have hmul:4095*k≤4095*4096:=Nat.mul_le_mul_left _ (by omega);have hz2:=(HU.out.trans hu2).size;clear hy hst
      go_wp2_with fail
      refine(Zhd _ _ A4 c4 ys y (ZiI hown2.out) (by omega)).mono ?_;rintro e w3 ⟨A6,c6,rfl,ho6,hu3⟩;go_wp2
      go_roundg (gk-1)
      case measure=>omega
      case rel=>exact⟨j+1,A6,c6,Zd y ys,by omega,by go_num,rfl,HS,by omega,Qh (Z1 ho6 hz2),hu2.trans hu3⟩
     ·obtain rfl:j=ks.length:=by omega
      have HV:=Qh (show ys=Zt xs ks by rw[←hs2.out,List.drop_length];rfl);go_wp2
      go_roundg (m0-1)
      case measure=>omega
      case rel=>exact⟨k+1,A4,c4,ys,by omega,by go_num,rfl,Qh (by rw[HV.out];exact HS0.out),by omega,hown2,HU.out.trans hu2⟩
  ·obtain rfl:k=txs.length:=by omega
   have HV:=Qh (show xs=ZZ [] txs by rw[←hs.out,List.drop_length];rfl);go_wp2
   go_ret
   exact⟨A3,c3,by rw[←HV.out];rfl,by rw[←HV.out];exact hown.out,hu⟩
end
/- Whether a history is right,by the document. -/
section
open Go.RowKit
def ZfP (txs:List HTx):Nat→Int→Bool
 |0,_=>true
 |j+1,id=>match txs[j]? with|some u=>decide (u.id<id)|none=>true
def txR (txs:List HTx) (k:Nat) (t:HTx):Bool:=ZfP txs k t.id&&ZaC t.id t.ops==0&&(Zr t.id [] t.ops).all (Za4 txs)
def Zbp (txs:List HTx):List HTx→Nat→Bool
 |[],_=>true
 |t::l,k=>txR txs k t&&Zbp txs l (k+1)
theorem ZdT (txs:List HTx) (t:HTx) (l:List HTx) (k:Nat):Zbp txs (t::l) k=(txR txs k t&&Zbp txs l (k+1)):=rfl
def ZbO (txs:List HTx) (keys:List Int):List HOrd→Nat→Bool
 |[],_=>true
 |o::l,k=>(o.key==keys.getD k 0&&(o.txs.length==(wrS o.key [] txs).length&&o.txs.all fun x=>o.txs.count x==(wrS o.key [] txs).count x))&&ZbO txs keys l (k+1)
theorem Zft (txs:List HTx) (keys:List Int) (o:HOrd) (l:List HOrd) (k:Nat):ZbO txs keys (o::l) k=((o.key==keys.getD k 0&&(o.txs.length==(wrS o.key [] txs).length&&o.txs.all fun x=>o.txs.count x==(wrS o.key [] txs).count x))&&ZbO txs keys l (k+1)):=rfl
def ZX (txs:List HTx) (ords:List HOrd):Bool:=
 decide (txs.length≤4096)&&(Zbp txs txs 0&&(ords.length==(ZZ [] txs).length&&ZbO txs (ZZ [] txs) ords 0))
theorem ZkU {txs:List HTx} {k:Nat} {id:Int} (hk:¬k=0) (hp:k-1<txs.length):ZfP txs k id=decide ((txs[k-1]'hp).id<id):=by
 obtain⟨j,rfl⟩:∃j,k=j+1:=⟨k-1,by omega⟩;simp only[Nat.add_sub_cancel]
 show(match txs[j]? with|some u=>decide (u.id<id)|none=>true)=_
 rw[Qg (by simpa using hp)]
theorem Zg1 (txs:List HTx):∀(l:List HTx) (k:Nat),Zbp txs l k=true→∀t∈l,ZaC t.id t.ops=0
 |[],_,_,t,ht=>by cases ht
 |u::l,k,h,t,ht=>by
  rw[ZdT,Bool.and_eq_true]at h;rcases List.mem_cons.1 ht with rfl|ht
  ·have:=h.1;unfold txR at this;simp only[Bool.and_eq_true,beq_iff_eq]at this;exact this.1.2
  ·exact Zg1 txs l (k+1) h.2 t ht
theorem ZdU {id:Int} {l:List HOp} (h:ZaC id l=0):l.length≤4095:=by
 unfold ZaC at h
 split at h
 ·cases h
 ·split at h
  ·cases h
  ·omega
theorem Zia (key:Int):∀(l:List HTx) (acc:List Int),(wrS key acc l).length≤acc.length+l.length
 |[],acc=>by simp[wrS]
 |t::l,acc=>by
  rw[ZeJ];have:=Zia key l (if t.done&&decide (0<Ze t.ops key) then acc++[t.id] else acc);have h2:(if t.done&&decide (0<Ze t.ops key) then acc++[t.id] else acc).length≤acc.length+1:=by split<;>simp
  rw[List.length_cons];omega
theorem Zmd {F G:Nat→Prop} {w:World} {A B:Option Addr} {c d:Nat} {l m:List Int} {v:Bool} (h:Ints F w A l) (hm:Ints G w B m) (hl:l.length≤17592186044415) (hl2:m.length≤17592186044415) (hv:(l.length==m.length&&l.all fun x=>l.count x==m.count x)=v):
  Calls Try.prog 73 #[.slice A l.length c,.slice B m.length d] w fun e w'=>e= .returned (.bool v)∧Upd No w w':=by subst hv;exact Zna F G w A B c d l m h hm hl hl2
section
variable {F:Nat→Prop} {w:World} {txs:List HTx} {ords:List HOrd} {A:Option Addr} {c:Nat} {B:Option Addr} {d:Nat} {i0:Int} {dn:Bool} {A1:Option Addr} {c1:Nat} {l:List HOp}
theorem Zlo {v:Bool} (H:Hist.lies F w ⟨txs,ords,A,c,B,d⟩) (h:HOps F w A1 l) (hl:l.length≤100000) (hv:(Zr i0 [] l).all (Za4 txs)=v):
  Calls Try.prog 71 #[.agg #[.slice A txs.length c,.slice B ords.length d],.agg #[.int .i64 i0,.bool dn,.slice A1 l.length c1]] w fun e w'=>e= .returned (.bool v)∧Upd No w w':=by subst hv;exact Zmg F w txs ords A c B d i0 dn A1 c1 l H h hl
theorem Zjt {v:Int} (h:HOps F w A1 l) (hlc:l.length≤c1) (hl:Zy l.length) (hv:ZaC i0 l=v):
  Calls Try.prog 70 #[.agg #[.int .i64 i0,.bool dn,.slice A1 l.length c1]] w fun e w'=>e= .returned (.int .i64 v)∧Upd No w w':=by subst hv;exact Zki F w i0 dn A1 c1 l h hlc hl
end
set_option maxRecDepth 100000 in
set_option maxHeartbeats 4000000 in
theorem Zmn (F:Nat→Prop) (w:World) (txs:List HTx) (ords:List HOrd) (A:Option Addr) (c:Nat) (B:Option Addr) (d:Nat) (H:Hist.lies F w ⟨txs,ords,A,c,B,d⟩):
  Calls Try.prog 55 #[.agg #[.slice A txs.length c,.slice B ords.length d]] w fun e w'=>e= .returned (.bool (ZX txs ords))∧Upd No w w':=by
 have hf:=H.few;have hfo:=H.fewo;simp only at hf hfo;have u0:=(Upd.refl No w).alloc (.cells #[.slice A txs.length c,.slice B ords.length d] 39);have bH:=Qh (Blk.new w 39 [.slice A txs.length c,.slice B ords.length d]);have U0:=Qh u0;clear u0
 by_cases hmany:4096<txs.length
 ·have HV:=Qh (show ZX txs ords=false by unfold ZX;rw[decide_eq_false (by omega)];rfl)
  go_enter Try.func55,Try.ntmps55
  go_wp2
  go_ret
  exact⟨by rw[HV.out];rfl,U0.out⟩
 ·have hv0:ZX txs ords=(Zbp txs txs 0&&(ords.length==(ZZ [] txs).length&&ZbO txs (ZZ [] txs) ords 0)):=by unfold ZX;rw[decide_eq_true (by omega)];rfl
  have HV:=Qh hv0;clear hv0
  go_enter Try.func55,Try.ntmps55
  go_wp2
  go_loopg [15] txs.length (fun gk i wr=>∃(k:Nat),k+gk=txs.length∧i= .int .i64 k∧Hid (Zbp txs (txs.drop k) k=Zbp txs txs 0)∧Upd No (w.alloc (.cells #[.slice A txs.length c,.slice B ords.length d] 39)) wr)
  case atStart=>exact⟨0,by omega,rfl,Qh rfl,Upd.refl _ _⟩
  case round=>
   obtain⟨k,hgk,rfl,hs,hu1⟩:=hrel
   by_cases hlt:k<txs.length
   ·have hu:=U0.out.trans hu1;obtain⟨ad,hAd,q0,q1,q2⟩:=(H.upd hu (fun _ _=>id)).tx_at hlt;have hlo:=H.tx txs[k] (List.getElem_mem hlt);simp only at hAd q0 q1 q2;obtain⟨x,hx⟩:∃x,txs[k]=x:=⟨_,rfl⟩;rw[hx]at q0 q1 q2 hlo;obtain⟨xi,xd,xo,xA,xc⟩:=x;simp only at q0 q1 q2;subst hAd;have X:=Qh (show txs.drop k=⟨xi,xd,xo,xA,xc⟩::txs.drop (k+1) by rw[←hx];exact List.drop_eq_getElem_cons hlt);have HL:=Qh hlo;have XM:=Qh (show(⟨xi,xd,xo,xA,xc⟩:HTx)∈txs by rw[←hx];exact List.getElem_mem hlt);have b1:(0:Int)≤(k:Int):=Qn _;have b2:(k:Int)<(txs.length:Int):=by omega
    have uA:=hu.alloc (.cells #[.int .i64 xi,.bool xd,.slice xA xo.length xc] 35);clear hx hlo;have hst:=hs.out;rw[X.out,ZdT]at hst;have HST:=Qh hst;have UA:=Qh (hu1.alloc (.cells #[.int .i64 xi,.bool xd,.slice xA xo.length xc] 35));have BT:=Qh (Blk.new wr 35 [.int .i64 xi,.bool xd,.slice xA xo.length xc]);have e0:∀W,Upd No (wr.alloc (.cells #[.int .i64 xi,.bool xd,.slice xA xo.length xc] 35)) W→W.cell? ⟨wr.heap.size,0,none⟩=some (.int .i64 xi):=fun W hW=>(BT.out.upd hW id).cell 0
    have e1:∀W,Upd No (wr.alloc (.cells #[.int .i64 xi,.bool xd,.slice xA xo.length xc] 35)) W→W.cell? ⟨wr.heap.size,1,none⟩=some (.bool xd):=fun W hW=>(BT.out.upd hW id).cell 1
    have e2:∀W,Upd No (wr.alloc (.cells #[.int .i64 xi,.bool xd,.slice xA xo.length xc] 35)) W→W.cell? ⟨wr.heap.size,2,none⟩=some (.slice xA xo.length xc):=fun W hW=>(BT.out.upd hW id).cell 2
    have g0:∀W,Upd No (wr.alloc (.cells #[.int .i64 xi,.bool xd,.slice xA xo.length xc] 35)) W→W.cell? ⟨w.heap.size,0,none⟩=some (.slice (some ad) txs.length c):=fun W hW=>(bH.out.upd (UA.out.trans hW) id).cell 0
    have g1:∀W,Upd No (wr.alloc (.cells #[.int .i64 xi,.bool xd,.slice xA xo.length xc] 35)) W→W.cell? ⟨w.heap.size,1,none⟩=some (.slice B ords.length d):=fun W hW=>(bH.out.upd (UA.out.trans hW) id).cell 1
    obtain⟨E,hE⟩:∃E,ZaC xi xo=E:=⟨_,rfl⟩;obtain⟨N,hN⟩:∃N,(Zr xi [] xo).all (Za4 txs)=N:=⟨_,rfl⟩;have HRt:=Qh fun W (hW:Upd No (wr.alloc (.cells #[.int .i64 xi,.bool xd,.slice xA xo.length xc] 35)) W)=>Zjt (F:=F) (w:=W) (i0:=xi) (dn:=xd) (A1:=xA) (c1:=xc) (HOps.upd HL.out.1 (U0.out.trans (UA.out.trans hW)) (fun _ _=>id)) HL.out.2.1 HL.out.2.2.1 hE
    have hxl:E=0→xo.length≤100000:=fun e=>by have:=ZdU (hE.trans e);omega
    have HNd:=Qh fun(e:E=0) W (hW:Upd No (wr.alloc (.cells #[.int .i64 xi,.bool xd,.slice xA xo.length xc] 35)) W)=>Zlo (F:=F) (w:=W) (i0:=xi) (dn:=xd) (A1:=xA) (c1:=xc) (H.upd (U0.out.trans (UA.out.trans hW)) (fun _ _=>id)) (HOps.upd HL.out.1 (U0.out.trans (UA.out.trans hW)) (fun _ _=>id)) (hxl e) hN
    have HTx:=Qh (show txR txs k ⟨xi,xd,xo,xA,xc⟩=(ZfP txs k xi&&E==0&&N) by unfold txR;simp only[hE,hN]);clear hE hN hxl
    by_cases hk0:k=0
    ·have hkk:decide ((0:Int)<(k:Int))=false:=decide_eq_false (by omega);have hkn:decide (0<k)=false:=decide_eq_false (by omega);have HA:=Qh (show txR txs k ⟨xi,xd,xo,xA,xc⟩=(E==0&&N) by rw[HTx.out,hk0];rfl);clear hk0
     by_cases hE1:E=0
     ·have HN2:=Qh (HNd.out hE1);subst hE1
      cases N
      ·have HS:=Qh (show ZX txs ords=false by rw[HV.out,←HST.out,HA.out];rfl);go_wp2;refine wp_region_noPanic ?_;refine wp_region_held_drew (S:=(fun w'=>Upd No (wr.alloc (.cells #[.int .i64 xi,.bool xd,.slice xA xo.length xc] 35)) w')) (by kernel_rfl) ?_ (fun hHeld=> ?_)
       ·(first|exact(Upd.refl No _).drew|exact hHeld.trans hu3)
       refine wpK 0 rfl ?_;refine wpK 1 rfl ?_;refine wpK 2 rfl ?_;refine wpN 3 rfl ?_;refine wpN 4 rfl ?_;refine wpN 5 rfl ?_;refine wpN 6 rfl ?_;refine wpN 7 rfl ?_;refine wpN 8 rfl ?_;refine wpN 9 rfl ?_;refine wpN 10 rfl ?_;refine wpN 11 rfl ?_;refine wpN 12 rfl ?_;refine wpK 13 rfl ?_;refine wpK 14 rfl ?_;refine wpK 15 rfl ?_;refine wpR [16] ?_;refine wpC rfl (fun K hK=> ?_) AllReadyH.nil;go_simp
       (first
  |(go_at_call 70;refine(HRt.out _ hHeld).mono ?_;rintro e w3 ⟨rfl,hu3⟩))
       try (go_wp2_with fail)
       refine hK.out _ _ ?_ (fun hHeld=> ?_)
       ·(first|exact(Upd.refl No _).drew|exact hHeld.trans hu3)
       clear hK K
       try simp only[Act.put,sT,sS,sZ]
       refine wpK 17 rfl ?_;refine wpK 18 rfl ?_;refine wpK 19 rfl ?_;refine wpK 20 rfl ?_;refine wpK 21 rfl ?_;refine wpR [22] ?_;refine wpC rfl (fun K hK=> ?_) AllReadyH.nil;go_simp
       (first
  |(go_at_call 71;refine(HN2.out _ hHeld).mono ?_;rintro e w3 ⟨rfl,hu3⟩))
       try (go_wp2_with fail)
       refine hK.out _ _ ?_ (fun hHeld=> ?_)
       ·(first|exact(Upd.refl No _).drew|exact hHeld.trans hu3)
       clear hK K
       try simp only[Act.put,sT,sS,sZ]
       refine wpK 23 rfl ?_;refine wpK 24 rfl ?_;refine wpD (NoPanic.normal ?_);have HU:=Qh (UA.out.trans hHeld);clear hHeld e0 e1 e2 g0 g1;go_wp2
       go_ret
       exact⟨by rw[HS.out];rfl,U0.out.trans HU.out⟩
      ·have HS:=Qh (show Zbp txs (txs.drop (k+1)) (k+1)=Zbp txs txs 0 by rw[←HST.out,HA.out];rfl);go_wp2;refine wp_region_noPanic ?_;refine wp_region_held_drew (S:=(fun w'=>Upd No (wr.alloc (.cells #[.int .i64 xi,.bool xd,.slice xA xo.length xc] 35)) w')) (by kernel_rfl) ?_ (fun hHeld=> ?_)
       ·(first|exact(Upd.refl No _).drew|exact hHeld.trans hu3)
       refine wpK 0 rfl ?_;refine wpK 1 rfl ?_;refine wpK 2 rfl ?_;refine wpN 3 rfl ?_;refine wpN 4 rfl ?_;refine wpN 5 rfl ?_;refine wpN 6 rfl ?_;refine wpN 7 rfl ?_;refine wpN 8 rfl ?_;refine wpN 9 rfl ?_;refine wpN 10 rfl ?_;refine wpN 11 rfl ?_;refine wpN 12 rfl ?_;refine wpK 13 rfl ?_;refine wpK 14 rfl ?_;refine wpK 15 rfl ?_;refine wpR [16] ?_;refine wpC rfl (fun K hK=> ?_) AllReadyH.nil;go_simp
       (first
  |(go_at_call 70;refine(HRt.out _ hHeld).mono ?_;rintro e w3 ⟨rfl,hu3⟩))
       try (go_wp2_with fail)
       refine hK.out _ _ ?_ (fun hHeld=> ?_)
       ·(first|exact(Upd.refl No _).drew|exact hHeld.trans hu3)
       clear hK K
       try simp only[Act.put,sT,sS,sZ]
       refine wpK 17 rfl ?_;refine wpK 18 rfl ?_;refine wpK 19 rfl ?_;refine wpK 20 rfl ?_;refine wpK 21 rfl ?_;refine wpR [22] ?_;refine wpC rfl (fun K hK=> ?_) AllReadyH.nil;go_simp
       (first
  |(go_at_call 71;refine(HN2.out _ hHeld).mono ?_;rintro e w3 ⟨rfl,hu3⟩))
       try (go_wp2_with fail)
       refine hK.out _ _ ?_ (fun hHeld=> ?_)
       ·(first|exact(Upd.refl No _).drew|exact hHeld.trans hu3)
       clear hK K
       try simp only[Act.put,sT,sS,sZ]
       refine wpK 23 rfl ?_;refine wpK 24 rfl ?_;refine wpD (NoPanic.normal ?_);have HU:=Qh (UA.out.trans hHeld);clear hHeld e0 e1 e2 g0 g1;go_wp2
       go_roundg (gk-1)
       case measure=>omega
       case rel=>exact⟨k+1,by omega,by go_num,HS,HU.out⟩
     ·have hEb:(E != 0)=true:=by rw[bne_iff_ne];exact hE1
      have HS:=Qh (show ZX txs ords=false by rw[HV.out,←HST.out,HA.out,beq_eq_false_iff_ne.2 hE1];rfl);clear hE1;go_wp2;refine wp_region_noPanic ?_;refine wp_region_held_drew (S:=(fun w'=>Upd No (wr.alloc (.cells #[.int .i64 xi,.bool xd,.slice xA xo.length xc] 35)) w')) (by kernel_rfl) ?_ (fun hHeld=> ?_)
      ·(first|exact(Upd.refl No _).drew|exact hHeld.trans hu3)
      refine wpK 0 rfl ?_;refine wpK 1 rfl ?_;refine wpK 2 rfl ?_;refine wpN 3 rfl ?_;refine wpN 4 rfl ?_;refine wpN 5 rfl ?_;refine wpN 6 rfl ?_;refine wpN 7 rfl ?_;refine wpN 8 rfl ?_;refine wpN 9 rfl ?_;refine wpN 10 rfl ?_;refine wpN 11 rfl ?_;refine wpN 12 rfl ?_;refine wpK 13 rfl ?_;refine wpK 14 rfl ?_;refine wpK 15 rfl ?_;refine wpR [16] ?_;refine wpC rfl (fun K hK=> ?_) AllReadyH.nil;go_simp
      (first
  |(go_at_call 70;refine(HRt.out _ hHeld).mono ?_;rintro e w3 ⟨rfl,hu3⟩))
      try (go_wp2_with fail)
      refine hK.out _ _ ?_ (fun hHeld=> ?_)
      ·(first|exact(Upd.refl No _).drew|exact hHeld.trans hu3)
      clear hK K
      try simp only[Act.put,sT,sS,sZ]
      refine wpK 17 rfl ?_;refine wpK 18 rfl ?_;refine wpK 19 rfl ?_;refine wpN 20 rfl ?_;refine wpN 21 rfl ?_;refine wpR [22] ?_;refine wpC rfl (fun K hK=> ?_) AllReadyH.nil;go_simp;refine hK.out _ _ ?_ (fun hHeld=> ?_)
      ·exact hHeld
      clear hK K
      try simp only[Act.put,sT,sS,sZ]
      refine wpN 23 rfl ?_;refine wpK 24 rfl ?_;refine wpD (NoPanic.normal ?_);have HU:=Qh (UA.out.trans hHeld);clear hHeld e0 e1 e2 g0 g1;go_wp2
      go_ret
      exact⟨by rw[HS.out];rfl,U0.out.trans HU.out⟩
    ·have hp1:k-1<txs.length:=by omega
     have hq:∀W,Upd No (wr.alloc (.cells #[.int .i64 xi,.bool xd,.slice xA xo.length xc] 35)) W→W.cell? (ad.add ((k-1)*3))=some (.int .i64 (txs[k-1]'hp1).id):=fun W hW=>by
      obtain⟨ad2,hAd2,p0,_,_⟩:=(H.upd (U0.out.trans (UA.out.trans hW)) (fun _ _=>id)).tx_at (k:=k-1) hp1;simp only at hAd2 p0
      cases hAd2
      exact p0
     obtain⟨y,hy⟩:∃y,(txs[k-1]'hp1).id=y:=⟨_,rfl⟩;rw[hy]at hq
     have HA0:=Qh (show txR txs k ⟨xi,xd,xo,xA,xc⟩=(decide (y<xi)&&E==0&&N) by
      rw[HTx.out,ZkU hk0 hp1,hy])
     have hkk:decide ((0:Int)<(k:Int))=true:=decide_eq_true (by omega);have hkn:decide (0<k)=true:=decide_eq_true (by omega);have hw1:IntKind.i64.wrap ((k:Int)-1)=(k:Int)-1:=IntWalk.i64_in _ (by omega);have hw2:(0:Int)≤(k:Int)-1:=by omega
     have hw3:(1:Int)≤(k:Int):=by omega
     have hw4:(k:Int)-1<(txs.length:Int):=by omega
     have hw5:((k:Int)-1).toNat=k-1:=by omega
     clear hy hk0
     by_cases hyx:y<xi
     ·have HA:=Qh (show txR txs k ⟨xi,xd,xo,xA,xc⟩=(E==0&&N) by rw[HA0.out,decide_eq_true hyx];rfl);have hyn2:decide (xi≤y)=false:=decide_eq_false (by omega);clear hyx
      by_cases hE1:E=0
      ·have HN2:=Qh (HNd.out hE1);subst hE1
       cases N
       ·have HS:=Qh (show ZX txs ords=false by rw[HV.out,←HST.out,HA.out];rfl);go_wp2;refine wp_region_noPanic ?_;refine wp_region_held_drew (S:=(fun w'=>Upd No (wr.alloc (.cells #[.int .i64 xi,.bool xd,.slice xA xo.length xc] 35)) w')) (by kernel_rfl) ?_ (fun hHeld=> ?_)
        ·(first|exact(Upd.refl No _).drew|exact hHeld.trans hu3)
        refine wpK 0 rfl ?_;refine wpK 1 rfl ?_;refine wpK 2 rfl ?_;refine wpK 3 rfl ?_;refine wpK 4 rfl ?_;refine wpK 5 rfl ?_;refine wpK 6 rfl ?_;refine wpK 7 rfl ?_;refine wpK 8 rfl ?_;refine wpK 9 rfl ?_;refine wpK 10 rfl ?_;refine wpK 11 rfl ?_;refine wpK 12 rfl ?_;refine wpK 13 rfl ?_;refine wpK 14 rfl ?_;refine wpK 15 rfl ?_;refine wpR [16] ?_;refine wpC rfl (fun K hK=> ?_) AllReadyH.nil;go_simp
        (first
  |(go_at_call 70;refine(HRt.out _ hHeld).mono ?_;rintro e w3 ⟨rfl,hu3⟩))
        try (go_wp2_with fail)
        refine hK.out _ _ ?_ (fun hHeld=> ?_)
        ·(first|exact(Upd.refl No _).drew|exact hHeld.trans hu3)
        clear hK K
        try simp only[Act.put,sT,sS,sZ]
        refine wpK 17 rfl ?_;refine wpK 18 rfl ?_;refine wpK 19 rfl ?_;refine wpK 20 rfl ?_;refine wpK 21 rfl ?_;refine wpR [22] ?_;refine wpC rfl (fun K hK=> ?_) AllReadyH.nil;go_simp
        (first
  |(go_at_call 71;refine(HN2.out _ hHeld).mono ?_;rintro e w3 ⟨rfl,hu3⟩))
        try (go_wp2_with fail)
        refine hK.out _ _ ?_ (fun hHeld=> ?_)
        ·(first|exact(Upd.refl No _).drew|exact hHeld.trans hu3)
        clear hK K
        try simp only[Act.put,sT,sS,sZ]
        refine wpK 23 rfl ?_;refine wpK 24 rfl ?_;refine wpD (NoPanic.normal ?_);have HU:=Qh (UA.out.trans hHeld);clear hHeld e0 e1 e2 g0 g1;go_wp2
        go_ret
        exact⟨by rw[HS.out];rfl,U0.out.trans HU.out⟩
       ·have HS:=Qh (show Zbp txs (txs.drop (k+1)) (k+1)=Zbp txs txs 0 by rw[←HST.out,HA.out];rfl);go_wp2;refine wp_region_noPanic ?_;refine wp_region_held_drew (S:=(fun w'=>Upd No (wr.alloc (.cells #[.int .i64 xi,.bool xd,.slice xA xo.length xc] 35)) w')) (by kernel_rfl) ?_ (fun hHeld=> ?_)
        ·(first|exact(Upd.refl No _).drew|exact hHeld.trans hu3)
        refine wpK 0 rfl ?_;refine wpK 1 rfl ?_;refine wpK 2 rfl ?_;refine wpK 3 rfl ?_;refine wpK 4 rfl ?_;refine wpK 5 rfl ?_;refine wpK 6 rfl ?_;refine wpK 7 rfl ?_;refine wpK 8 rfl ?_;refine wpK 9 rfl ?_;refine wpK 10 rfl ?_;refine wpK 11 rfl ?_;refine wpK 12 rfl ?_;refine wpK 13 rfl ?_;refine wpK 14 rfl ?_;refine wpK 15 rfl ?_;refine wpR [16] ?_;refine wpC rfl (fun K hK=> ?_) AllReadyH.nil;go_simp
        (first
  |(go_at_call 70;refine(HRt.out _ hHeld).mono ?_;rintro e w3 ⟨rfl,hu3⟩))
        try (go_wp2_with fail)
        refine hK.out _ _ ?_ (fun hHeld=> ?_)
        ·(first|exact(Upd.refl No _).drew|exact hHeld.trans hu3)
        clear hK K
        try simp only[Act.put,sT,sS,sZ]
        refine wpK 17 rfl ?_;refine wpK 18 rfl ?_;refine wpK 19 rfl ?_;refine wpK 20 rfl ?_;refine wpK 21 rfl ?_;refine wpR [22] ?_;refine wpC rfl (fun K hK=> ?_) AllReadyH.nil;go_simp
        (first
  |(go_at_call 71;refine(HN2.out _ hHeld).mono ?_;rintro e w3 ⟨rfl,hu3⟩))
        try (go_wp2_with fail)
        refine hK.out _ _ ?_ (fun hHeld=> ?_)
        ·(first|exact(Upd.refl No _).drew|exact hHeld.trans hu3)
        clear hK K
        try simp only[Act.put,sT,sS,sZ]
        refine wpK 23 rfl ?_;refine wpK 24 rfl ?_;refine wpD (NoPanic.normal ?_);have HU:=Qh (UA.out.trans hHeld);clear hHeld e0 e1 e2 g0 g1;go_wp2
        go_roundg (gk-1)
        case measure=>omega
        case rel=>exact⟨k+1,by omega,by go_num,HS,HU.out⟩
      ·have hEb:(E != 0)=true:=by rw[bne_iff_ne];exact hE1
       have HS:=Qh (show ZX txs ords=false by rw[HV.out,←HST.out,HA.out,beq_eq_false_iff_ne.2 hE1];rfl);clear hE1;go_wp2;refine wp_region_noPanic ?_;refine wp_region_held_drew (S:=(fun w'=>Upd No (wr.alloc (.cells #[.int .i64 xi,.bool xd,.slice xA xo.length xc] 35)) w')) (by kernel_rfl) ?_ (fun hHeld=> ?_)
       ·(first|exact(Upd.refl No _).drew|exact hHeld.trans hu3)
       refine wpK 0 rfl ?_;refine wpK 1 rfl ?_;refine wpK 2 rfl ?_;refine wpK 3 rfl ?_;refine wpK 4 rfl ?_;refine wpK 5 rfl ?_;refine wpK 6 rfl ?_;refine wpK 7 rfl ?_;refine wpK 8 rfl ?_;refine wpK 9 rfl ?_;refine wpK 10 rfl ?_;refine wpK 11 rfl ?_;refine wpK 12 rfl ?_;refine wpK 13 rfl ?_;refine wpK 14 rfl ?_;refine wpK 15 rfl ?_;refine wpR [16] ?_;refine wpC rfl (fun K hK=> ?_) AllReadyH.nil;go_simp
       (first
  |(go_at_call 70;refine(HRt.out _ hHeld).mono ?_;rintro e w3 ⟨rfl,hu3⟩))
       try (go_wp2_with fail)
       refine hK.out _ _ ?_ (fun hHeld=> ?_)
       ·(first|exact(Upd.refl No _).drew|exact hHeld.trans hu3)
       clear hK K
       try simp only[Act.put,sT,sS,sZ]
       refine wpK 17 rfl ?_;refine wpK 18 rfl ?_;refine wpK 19 rfl ?_;refine wpN 20 rfl ?_;refine wpN 21 rfl ?_;refine wpR [22] ?_;refine wpC rfl (fun K hK=> ?_) AllReadyH.nil;go_simp;refine hK.out _ _ ?_ (fun hHeld=> ?_)
       ·exact hHeld
       clear hK K
       try simp only[Act.put,sT,sS,sZ]
       refine wpN 23 rfl ?_;refine wpK 24 rfl ?_;refine wpD (NoPanic.normal ?_);have HU:=Qh (UA.out.trans hHeld);clear hHeld e0 e1 e2 g0 g1;go_wp2
       go_ret
       exact⟨by rw[HS.out];rfl,U0.out.trans HU.out⟩
     ·have HA:=Qh (show txR txs k ⟨xi,xd,xo,xA,xc⟩=false by rw[HA0.out,decide_eq_false hyx];rfl);have hyn2:decide (xi≤y)=true:=decide_eq_true (by omega);clear hyx;have HS:=Qh (show ZX txs ords=false by rw[HV.out,←HST.out,HA.out];rfl);go_wp2;refine wp_region_noPanic ?_;refine wp_region_held_drew (S:=(fun w'=>Upd No (wr.alloc (.cells #[.int .i64 xi,.bool xd,.slice xA xo.length xc] 35)) w')) (by kernel_rfl) ?_ (fun hHeld=> ?_)
      ·(first|exact(Upd.refl No _).drew|exact hHeld.trans hu3)
      refine wpK 0 rfl ?_;refine wpK 1 rfl ?_;refine wpK 2 rfl ?_;refine wpK 3 rfl ?_;refine wpK 4 rfl ?_;refine wpK 5 rfl ?_;refine wpK 6 rfl ?_;refine wpK 7 rfl ?_;refine wpK 8 rfl ?_;refine wpK 9 rfl ?_;refine wpK 10 rfl ?_;refine wpK 11 rfl ?_;refine wpK 12 rfl ?_;refine wpK 13 rfl ?_;refine wpK 14 rfl ?_;refine wpN 15 rfl ?_;refine wpR [16] ?_;refine wpC rfl (fun K hK=> ?_) AllReadyH.nil;go_simp;refine hK.out _ _ ?_ (fun hHeld=> ?_)
      ·exact hHeld
      clear hK K
      try simp only[Act.put,sT,sS,sZ]
      refine wpN 17 rfl ?_;refine wpK 18 rfl ?_;refine wpK 19 rfl ?_;refine wpN 20 rfl ?_;refine wpN 21 rfl ?_;refine wpR [22] ?_;refine wpC rfl (fun K hK=> ?_) AllReadyH.nil;go_simp;refine hK.out _ _ ?_ (fun hHeld=> ?_)
      ·exact hHeld
      clear hK K
      try simp only[Act.put,sT,sS,sZ]
      refine wpN 23 rfl ?_;refine wpK 24 rfl ?_;refine wpD (NoPanic.normal ?_);have HU:=Qh (UA.out.trans hHeld);clear hHeld e0 e1 e2 g0 g1;go_wp2
      go_ret
      exact⟨by rw[HS.out];rfl,U0.out.trans HU.out⟩
   ·obtain rfl:k=txs.length:=by omega
    have HT:=Qh (show Zbp txs txs 0=true by rw[←hs.out,List.drop_length];rfl);have hall:=Zg1 txs txs 0 HT.out;have HK:=Qh (Zmr F wr txs ords A c B d (H.upd (U0.out.trans hu1) (fun _ _=>id)) (by omega) (fun t ht=>ZdU (hall t ht)));have h0:=(bH.out.upd hu1 id).cell 0;have h1:=(bH.out.upd hu1 id).cell 1;simp only[Qz,Qs]at h0 h1;obtain⟨ks,hks⟩:∃ks,ZZ [] txs=ks:=⟨_,rfl⟩;rw[hks]at HK HV;clear hall hks hs
    go_wp2_with fail
    refine(HK.out).mono ?_;rintro e w2 ⟨A2,c2,rfl,ho2,hu2⟩;have HI:=Qh (Zco ho2);have HU:=Qh ((U0.out.trans hu1).trans hu2);have HB:=Qh ((bH.out.upd hu1 id).upd hu2 id);have g1:=HB.out.cell 1;simp only[Qz,Qs]at g1;clear ho2 hu1 hu2 h0 h1
    by_cases hlen:ords.length=ks.length
    ·have hlb:((ords.length:Int) != (ks.length:Int))=false:=by rw[hlen];simp
     have HLB:=Qh (show(ords.length==ks.length)=true by simpa using hlen);have HLE:=Qh hlen;clear hlen;have HW1:=Qh fun W (hW:Upd No w2 W)=>HU.out.trans hW
     go_wp2
     go_loopg [57] ords.length (fun gk i wr=>∃(k:Nat),k+gk=ords.length∧i= .int .i64 k∧Hid (ZbO txs ks (ords.drop k) k=ZbO txs ks ords 0)∧Upd No w2 wr)
     case atStart=>exact⟨0,by omega,rfl,Qh rfl,Upd.refl _ _⟩
     case round=>
      obtain⟨k,hgk,rfl,hs,hu⟩:=hrel
      by_cases hlt2:k<ords.length
      ·obtain⟨ad,hAd,q0,q1⟩:=(H.upd (HW1.out _ hu) (fun _ _=>id)).ord_at hlt2;have hlo:=H.ord ords[k] (List.getElem_mem hlt2);simp only at hAd q0 q1;obtain⟨x,hx⟩:∃x,ords[k]=x:=⟨_,rfl⟩;rw[hx]at q0 q1 hlo;obtain⟨xk,xl,xA,xc⟩:=x;simp only at q0 q1;subst hAd;have X:=Qh (show ords.drop k=⟨xk,xl,xA,xc⟩::ords.drop (k+1) by rw[←hx];exact List.drop_eq_getElem_cons hlt2);have HL:=Qh hlo;have b1:(0:Int)≤(k:Int):=Qn _;have b2:(k:Int)<(ords.length:Int):=by omega
       have b3:k<ks.length:=by rw[←HLE.out];exact hlt2
       have b4:(k:Int)<(ks.length:Int):=by omega
       clear hx hlo;have hst:=hs.out;rw[X.out,Zft,List.getD_eq_getElem?_getD,Qg b3]at hst;have UA:=Qh (hu.alloc (.cells #[.int .i64 xk,.slice xA xl.length xc] 52));have BO:=Qh (Blk.new wr 52 [.int .i64 xk,.slice xA xl.length xc]);have e0:∀W,Upd No (wr.alloc (.cells #[.int .i64 xk,.slice xA xl.length xc] 52)) W→W.cell? ⟨wr.heap.size,0,none⟩=some (.int .i64 xk):=fun W hW=>(BO.out.upd hW id).cell 0
       have e1:∀W,Upd No (wr.alloc (.cells #[.int .i64 xk,.slice xA xl.length xc] 52)) W→W.cell? ⟨wr.heap.size,1,none⟩=some (.slice xA xl.length xc):=fun W hW=>(BO.out.upd hW id).cell 1
       have g0:∀W,Upd No (wr.alloc (.cells #[.int .i64 xk,.slice xA xl.length xc] 52)) W→W.cell? ⟨w.heap.size,0,none⟩=some (.slice A txs.length c):=fun W hW=>(HB.out.upd (UA.out.trans hW) id).cell 0
       have g1:∀W,Upd No (wr.alloc (.cells #[.int .i64 xk,.slice xA xl.length xc] 52)) W→W.cell? ⟨w.heap.size,1,none⟩=some (.slice (some ad) ords.length d):=fun W hW=>(HB.out.upd (UA.out.trans hW) id).cell 1
       obtain⟨ad2,hA2,_,_,_⟩:=(HI.out.upd hu (fun _ _=>id)).at_ b3
       have kc:∀W,Upd No (wr.alloc (.cells #[.int .i64 xk,.slice xA xl.length xc] 52)) W→W.cell? (ad2.add k)=some (.int .i64 ks[k]):=fun W hW=>by
        obtain⟨ad3,hA3,_,_,hc3⟩:=(HI.out.upd (UA.out.trans hW) (fun _ _=>id)).at_ b3;rw[hA2]at hA3
        cases hA3
        exact hc3
       obtain⟨ws,hws⟩:∃ws,wrS xk [] txs=ws:=⟨_,rfl⟩;have hwl:=Zia xk txs [];rw[hws]at hwl hst;simp only[List.length_nil,Nat.zero_add]at hwl;have HWt:=Qh fun W (hW:Upd No (wr.alloc (.cells #[.int .i64 xk,.slice xA xl.length xc] 52)) W)=>(Zkg F W txs ords A c (some ad) d xk (H.upd (HW1.out _ (UA.out.trans hW)) (fun _ _=>id))).mono (R':=Ze8 W ws) (fun e w' h=>by rw[hws]at h;exact h)
       obtain⟨P,hP⟩:∃P,(xl.length==ws.length&&xl.all fun x=>xl.count x==ws.count x)=P:=⟨_,rfl⟩;simp only at hst;rw[hP]at hst;have HPm:=Qh fun W (hW:Upd No (wr.alloc (.cells #[.int .i64 xk,.slice xA xl.length xc] 52)) W) (G:Nat→Prop) A6 c6 (hI:Ints G W A6 ws)=>Zmd (F:=F) (G:=G) (w:=W) (A:=xA) (B:=A6) (c:=xc) (d:=c6) (HL.out.1.upd (HW1.out _ (UA.out.trans hW)) (fun _ _=>id)) hI HL.out.2.2.1 (by omega) hP
       obtain⟨y,hy⟩:∃y,ks[k]=y:=⟨_,rfl⟩;rw[hy]at kc;rw[show(some ks[k]).getD 0=y from hy]at hst;have HST:=Qh hst;have HA2:=Qh hA2;subst hA2;clear hst hws hP hy
       by_cases hky:xk=y
       ·have hkb:(xk != y)=false:=by rw[hky];simp
        have hkb2:(xk==y)=true:=by simpa using hky
        clear hky
        cases P
        ·have HS:=Qh (show ZX txs ords=false by rw[HV.out,HT.out,HLB.out,←HST.out,hkb2];rfl);go_wp2;refine wp_region_noPanic ?_;refine wp_region_held_drew (S:=(fun w'=>Upd No (wr.alloc (.cells #[.int .i64 xk,.slice xA xl.length xc] 52)) w')) (by kernel_rfl) ?_ (fun hHeld=> ?_)
         ·(first|exact(Upd.refl No _).drew|exact hHeld.trans hu3)
         refine wpK 0 rfl ?_;refine wpK 1 rfl ?_;refine wpK 2 rfl ?_;refine wpK 3 rfl ?_;refine wpK 4 rfl ?_;refine wpK 5 rfl ?_;refine wpK 6 rfl ?_;refine wpK 7 rfl ?_;refine wpK 8 rfl ?_;refine wpK 9 rfl ?_;refine wpK 10 rfl ?_;refine wpK 11 rfl ?_;refine wpK 12 rfl ?_;refine wpR [13] ?_;refine wpC rfl (fun K hK=> ?_) AllReadyH.nil;go_simp
         (first
  |(go_at_call 74;refine(HWt.out _ hHeld).mono ?_;rintro e w3 ⟨A6,c6,rfl,ho6,hu3⟩;have hI6:=Zco ho6))
         try (go_wp2_with fail)
         refine hK.out _ _ ?_ (fun hHeld=> ?_)
         ·(first|exact(Upd.refl No _).drew|exact hHeld.trans hu3)
         clear hK K
         try simp only[Act.put,sT,sS,sZ]
         refine wpR [14] ?_;refine wpC rfl (fun K hK=> ?_) AllReadyH.nil;go_simp
         (first
  |(go_at_call 73;refine(HPm.out _ hHeld _ A6 c6 hI6).mono ?_;rintro e w3 ⟨rfl,hu3⟩))
         try (go_wp2_with fail)
         refine hK.out _ _ ?_ (fun hHeld=> ?_)
         ·(first|exact(Upd.refl No _).drew|exact hHeld.trans hu3)
         clear hK K
         try simp only[Act.put,sT,sS,sZ]
         refine wpK 15 rfl ?_;refine wpK 16 rfl ?_;refine wpD (NoPanic.normal ?_);have HU2:=Qh (UA.out.trans hHeld);clear hHeld e0 e1 g0 g1 kc;go_wp2
         go_ret
         exact⟨by rw[HS.out];rfl,HW1.out _ HU2.out⟩
        ·have HS:=Qh (show ZbO txs ks (ords.drop (k+1)) (k+1)=ZbO txs ks ords 0 by rw[←HST.out,hkb2];rfl);go_wp2;refine wp_region_noPanic ?_;refine wp_region_held_drew (S:=(fun w'=>Upd No (wr.alloc (.cells #[.int .i64 xk,.slice xA xl.length xc] 52)) w')) (by kernel_rfl) ?_ (fun hHeld=> ?_)
         ·(first|exact(Upd.refl No _).drew|exact hHeld.trans hu3)
         refine wpK 0 rfl ?_;refine wpK 1 rfl ?_;refine wpK 2 rfl ?_;refine wpK 3 rfl ?_;refine wpK 4 rfl ?_;refine wpK 5 rfl ?_;refine wpK 6 rfl ?_;refine wpK 7 rfl ?_;refine wpK 8 rfl ?_;refine wpK 9 rfl ?_;refine wpK 10 rfl ?_;refine wpK 11 rfl ?_;refine wpK 12 rfl ?_;refine wpR [13] ?_;refine wpC rfl (fun K hK=> ?_) AllReadyH.nil;go_simp
         (first
  |(go_at_call 74;refine(HWt.out _ hHeld).mono ?_;rintro e w3 ⟨A6,c6,rfl,ho6,hu3⟩;have hI6:=Zco ho6))
         try (go_wp2_with fail)
         refine hK.out _ _ ?_ (fun hHeld=> ?_)
         ·(first|exact(Upd.refl No _).drew|exact hHeld.trans hu3)
         clear hK K
         try simp only[Act.put,sT,sS,sZ]
         refine wpR [14] ?_;refine wpC rfl (fun K hK=> ?_) AllReadyH.nil;go_simp
         (first
  |(go_at_call 73;refine(HPm.out _ hHeld _ A6 c6 hI6).mono ?_;rintro e w3 ⟨rfl,hu3⟩))
         try (go_wp2_with fail)
         refine hK.out _ _ ?_ (fun hHeld=> ?_)
         ·(first|exact(Upd.refl No _).drew|exact hHeld.trans hu3)
         clear hK K
         try simp only[Act.put,sT,sS,sZ]
         refine wpK 15 rfl ?_;refine wpK 16 rfl ?_;refine wpD (NoPanic.normal ?_);have HU2:=Qh (UA.out.trans hHeld);clear hHeld e0 e1 g0 g1 kc;go_wp2
         go_roundg (gk-1)
         case measure=>omega
         case rel=>exact⟨k+1,by omega,by go_num,HS,HU2.out⟩
       ·have hkb:(xk != y)=true:=by rw[bne_iff_ne];exact hky
        have HS:=Qh (show ZX txs ords=false by rw[HV.out,HT.out,HLB.out,←HST.out,beq_eq_false_iff_ne.2 hky];rfl);clear hky;go_wp2;refine wp_region_noPanic ?_;refine wp_region_held_drew (S:=(fun w'=>Upd No (wr.alloc (.cells #[.int .i64 xk,.slice xA xl.length xc] 52)) w')) (by kernel_rfl) ?_ (fun hHeld=> ?_)
        ·(first|exact(Upd.refl No _).drew|exact hHeld.trans hu3)
        refine wpK 0 rfl ?_;refine wpK 1 rfl ?_;refine wpK 2 rfl ?_;refine wpK 3 rfl ?_;refine wpK 4 rfl ?_;refine wpK 5 rfl ?_;refine wpK 6 rfl ?_;refine wpK 7 rfl ?_;refine wpN 8 rfl ?_;refine wpN 9 rfl ?_;refine wpN 10 rfl ?_;refine wpN 11 rfl ?_;refine wpN 12 rfl ?_;refine wpR [13] ?_;refine wpC rfl (fun K hK=> ?_) AllReadyH.nil;go_simp;refine hK.out _ _ ?_ (fun hHeld=> ?_)
        ·exact hHeld
        clear hK K
        try simp only[Act.put,sT,sS,sZ]
        refine wpR [14] ?_;refine wpC rfl (fun K hK=> ?_) AllReadyH.nil;go_simp;refine hK.out _ _ ?_ (fun hHeld=> ?_)
        ·exact hHeld
        clear hK K
        try simp only[Act.put,sT,sS,sZ]
        refine wpN 15 rfl ?_;refine wpK 16 rfl ?_;refine wpD (NoPanic.normal ?_);have HU2:=Qh (UA.out.trans hHeld);clear hHeld e0 e1 g0 g1 kc;go_wp2
        go_ret
        exact⟨by rw[HS.out];rfl,HW1.out _ HU2.out⟩
      ·obtain rfl:k=ords.length:=by omega
       have HS:=Qh (show ZX txs ords=true by rw[HV.out,HT.out,HLB.out,←hs.out,List.drop_length];rfl);go_wp2
       go_ret
       exact⟨by rw[HS.out];rfl,HW1.out _ hu⟩
    ·have hlb:((ords.length:Int) != (ks.length:Int))=true:=by rw[bne_iff_ne];omega
     have HS:=Qh (show ZX txs ords=false by rw[HV.out,HT.out,show(ords.length==ks.length)=false by simpa using hlen];rfl);clear hlen;go_wp2
     go_ret
     exact⟨by rw[HS.out];rfl,HU.out⟩
end
end Go.Proofs.Ytdbjokfejmgepaa
