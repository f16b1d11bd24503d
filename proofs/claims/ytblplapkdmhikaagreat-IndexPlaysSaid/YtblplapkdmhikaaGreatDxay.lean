/- The kinds of a phenomenon; who is next in an order. -/
import Derived.Test.YtblplapkdmhikaaGreatProg
import Derived.Test.YtblplapkdmhikaaGreatDxar
import Derived.Test.YtblplapkdmhikaaGreatDxav
namespace Go.Proofs.YtblplapkdmhikaaGreat
set_option linter.unusedVariables false
set_option linter.unusedSimpArgs false
section
open Go.RowKit
def ZiQ (p:Int):Int:=if p=1 then 2 else if p=4 then 6 else if p=5 then 14 else 0
def ZiP (p:Int):Int:=if p=5 then 8 else 0
def Zki (l:List Int) (x:Int):Nat:=l.findIdx (·==x)
def ZkL (l:List Int) (tx:Int):Option Int:=if tx=0 then l[0]? else if Zki l tx<l.length then l[Zki l tx+1]? else none
end
/- The order of a key. -/
section
open Go.RowKit
theorem Zgf (w:World) (o:HOp):Calls Tryz.prog 198 #[.agg o.cells.toArray] w fun e w'=>e= .returned (.bool (!o.read))∧Upd No w w':=by
 unfold HOp.cells
 go_enter Tryz.func198,Tryz.ntmps198
 go_wp2
 go_ret
 exact⟨rfl,(Upd.refl _ _).alloc _⟩
def Zk5 (l:List HOrd) (key:Int):Nat:=l.findIdx fun o=>o.key==key
def Zjq (l:List HOrd) (key:Int):List Int:=match l[Zk5 l key]? with|some o=>o.txs|none=>[]
end
/- The document on histories:orders,writers,keys. -/
section
open Go.RowKit
def wrS (key:Int) (acc:List Int):List HTx→List Int
 |[]=>acc
 |t::l=>wrS key (if t.done&&decide (0<Zg t.ops key) then acc++[t.id] else acc) l
theorem ZeN (key:Int) (acc:List Int) (t:HTx) (l:List HTx):wrS key acc (t::l)=wrS key (if t.done&&decide (0<Zg t.ops key) then acc++[t.id] else acc) l:=rfl
set_option maxRecDepth 100000 in
set_option maxHeartbeats 1000000 in
theorem Zib (F:Nat→Prop) (w:World) (txs:List HTx) (ords:List HOrd) (A:Option Addr) (c:Nat) (B:Option Addr) (d:Nat) (key:Int) (H:Hist.lies F w ⟨txs,ords,A,c,B,d⟩):
  Calls Tryz.prog 95 #[.agg #[.slice A txs.length c,.slice B ords.length d],.int .i64 key] w (Zkx w (wrS key [] txs)):=by
 have hfo:=H.few;simp only at hfo
 go_enter Tryz.func95,Tryz.ntmps95
 go_wp2
 go_loopg [5,11] txs.length (fun gk s i wr=>∃(k:Nat) (A3:Option Addr) (c3:Nat) (xs:List Int),k+gk=txs.length∧i= .int .i64 k∧s= .slice A3 xs.length c3∧Hid (wrS key xs (txs.drop k)=wrS key [] txs)∧xs.length≤k∧
  Hid (wr.ownsRow w.heap.size 3 1 (.slice A3 xs.length c3) xs.length (xs.map (Value.int .i64)))∧Upd No w wr)
 case atStart=>exact⟨0,none,0,[],by omega,rfl,rfl,Qh rfl,by simp,Qh (World.ownsRow_nil _ _ _ _),(Upd.refl No w).alloc _⟩
 case round=>
  obtain⟨k,A3,c3,xs,hgk,rfl,rfl,hs,hxl,hown,hu⟩:=hrel
  by_cases hlt:k<txs.length
  ·obtain⟨ad,hAd,q0,q1,q2⟩:=(H.upd hu (fun _ _=>id)).tx_at hlt;have hlo:=H.tx txs[k] (List.getElem_mem hlt);simp only at hAd q0 q1 q2;obtain⟨x,hx⟩:∃x,txs[k]=x:=⟨_,rfl⟩;rw[hx]at q0 q1 q2 hlo;obtain⟨xi,xd,xo,xA,xc⟩:=x;simp only at q0 q1 q2;subst hAd;have X:=Qh (show txs.drop k=⟨xi,xd,xo,xA,xc⟩::txs.drop (k+1) by rw[←hx];exact List.drop_eq_getElem_cons hlt);have HL:=Qh hlo;have XM:=Qh (show(⟨xi,xd,xo,xA,xc⟩:HTx)∈txs by rw[←hx];exact List.getElem_mem hlt);have b1:(0:Int)≤(k:Int):=Qn _;have b2:(k:Int)<(txs.length:Int):=by omega
   have uA:=hu.alloc (.cells #[.int .i64 xi,.bool xd,.slice xA xo.length xc] 81);clear hx hlo;have hst:=hs.out;rw[X.out,ZeN]at hst;have HST:=Qh hst;have bb:=Blk.new wr 81 [.int .i64 xi,.bool xd,.slice xA xo.length xc];have hz:=hu.size;have HO:=Qh (Zb hown.out ((Upd.refl No wr).alloc (.cells #[.int .i64 xi,.bool xd,.slice xA xo.length xc] 81)) (fun _ _=>id));have BB:=Qh bb;clear hst bb
   cases xd
   ·have HS:=Qh (show wrS key xs (txs.drop (k+1))=wrS key [] txs from HST.out);go_wp2
    go_roundg (gk-1)
    case measure=>omega
    case rel=>exact⟨k+1,A3,c3,xs,by omega,by go_num,rfl,HS,by omega,HO,uA⟩
   ·have e2:(wr.alloc (.cells #[.int .i64 xi,.bool true,.slice xA xo.length xc] 81)).cell? ⟨wr.heap.size,0,none⟩=some (.int .i64 xi):=BB.out.cell 0
    go_wp2_with fail
    refine(Za5 F _ xA xc xo key (HOps.upd HL.out.1 uA (fun _ _=>id)) HL.out.2.2.1).mono ?_;rintro e w1 ⟨rfl,hu1⟩;have e0:w1.cell? ⟨wr.heap.size,0,none⟩=some (.int .i64 xi):=(BB.out.upd hu1 id).cell 0;have HO1:=Zb HO.out hu1 (fun _ _=>id);have hz1:=hu1.size;simp only[World.size_alloc]at hz1;have HU:=Qh (uA.trans hu1);clear hu1 e2
    by_cases hw:0<Zg xo key
    ·have HS:=Qh (show wrS key (xs++[xi]) (txs.drop (k+1))=wrS key [] txs by rw[←HST.out,decide_eq_true hw];rfl);have hwd:decide ((0:Int)<((Zg xo key:Nat):Int))=true:=decide_eq_true (by omega);have hwd2:decide (0<Zg xo key)=true:=decide_eq_true hw;clear hw
     go_wp2_with (at_builtin;refine ZS rfl rfl Zh5 (v:= .slice A3 xs.length c3) (cells:=[.int .i64 xi]) (by rfl) rfl HO1 rfl rfl (by omega) (by omega) (by omega) ?_;intro g' c' w4 hown4 hu4 hg4 hlt4)
     go_roundg (gk-1)
     case measure=>omega
     case rel=>exact⟨k+1,some ⟨g',0,none⟩,c',xs++[xi],by omega,by go_num,by simp,HS,by simp;omega,Qh (by simpa using hown4),HU.out.then_ hu4 fun i e=> .inr (HO1.lt i e).1⟩
    ·have HS:=Qh (show wrS key xs (txs.drop (k+1))=wrS key [] txs by rw[←HST.out,decide_eq_false hw];rfl);have hwd:decide ((0:Int)<((Zg xo key:Nat):Int))=false:=decide_eq_false (by omega);have hwd2:decide (0<Zg xo key)=false:=decide_eq_false hw;clear hw;go_wp2
     go_roundg (gk-1)
     case measure=>omega
     case rel=>exact⟨k+1,A3,c3,xs,by omega,by go_num,rfl,HS,by omega,Qh HO1,HU.out⟩
  ·obtain rfl:k=txs.length:=by omega
   have HV:=Qh (show xs=wrS key [] txs by rw[←hs.out,List.drop_length];rfl);go_wp2
   go_ret
   exact⟨A3,c3,by rw[←HV.out];rfl,by rw[←HV.out];exact hown.out,hu⟩
end
end Go.Proofs.YtblplapkdmhikaaGreat
