/- Scripts out of numbers: numbers, words, the kind of a word. -/
import Derived.Test.YtbcpoloakepnkaaGreatDoorLbaj
import Derived.Test.YtbcpoloakepnkaaGreatDoorLbbb
namespace Go.Proofs.YtbcpoloakepnkaaGreatDoor
set_option linter.unusedVariables false
set_option linter.unusedSimpArgs false
section
open Go.RowKit
set_option maxRecDepth 100000 in
theorem ZdK (W:World):Calls Tryz.prog 30 #[.int .i64 2] W fun e w'=>e= .returned (.agg #[.string ⟨#[115,101,116]⟩,.int .i64 3,.int .i64 1073741824])∧Upd No W w':=by
 go_enter Tryz.func30,Tryz.ntmps30
 go_wp2;refine bodyPost_ret (v:= .agg #[.string ⟨#[115,101,116]⟩,.int .i64 3,.int .i64 1073741824]) (by simp[results,Tryz.results30,go_sem]) rfl ⟨rfl,?_⟩;exact(Upd.refl No W).alloc _
set_option maxRecDepth 100000 in
theorem ZdJ (W:World):Calls Tryz.prog 30 #[.int .i64 4] W fun e w'=>e= .returned (.agg #[.string ⟨#[111,114,100]⟩,.int .i64 2,.int .i64 1073741824])∧Upd No W w':=by
 go_enter Tryz.func30,Tryz.ntmps30
 go_wp2;refine bodyPost_ret (v:= .agg #[.string ⟨#[111,114,100]⟩,.int .i64 2,.int .i64 1073741824]) (by simp[results,Tryz.results30,go_sem]) rfl ⟨rfl,?_⟩;exact(Upd.refl No W).alloc _
def ZbW:Nat→List UInt8
 |1=>[97,100,100]
 |2=>[115,101,116]
 |3=>[100,101,108]
 |4=>[111,114,100]
 |5=>[109,111,118]
 |6=>[117,110,100,111]
 |7=>[114,101,100,111]
 |8=>[97,115,107]
 |9=>[119,104,121]
 |_=>[]
def ZA (k:Nat):ByteArray:=⟨(ZbW k).toArray⟩
theorem Zcq:∀t k:Fin 10,1≤k.1→k.1<t.1→ZbW k.1≠ZbW t.1:=by decide
theorem Zcp {t k:Nat} (h1:1≤k) (h2:k<t) (h3:t≤9):¬ZA k=ZA t:=fun e=>Zcq ⟨t,by omega⟩ ⟨k,by omega⟩ h1 h2 (by have:=congrArg (fun b:ByteArray=>b.data.toList) e;simpa[ZA]using this)
theorem ZdI (W:World) {k:Nat} (h1:1≤k) (h2:k≤9):Calls Tryz.prog 30 #[.int .i64 (k:Int)] W fun e w'=>(∃la mo:Int,e= .returned (.agg #[.string (ZA k),.int .i64 la,.int .i64 mo]))∧Upd No W w':=by
 obtain rfl|rfl|rfl|rfl|rfl|rfl|rfl|rfl|rfl:k=1∨k=2∨k=3∨k=4∨k=5∨k=6∨k=7∨k=8∨k=9:=by omega
 ·exact(Za7 W).mono fun e w' h=>⟨⟨_,_,h.1⟩,h.2⟩
 ·exact(ZdK W).mono fun e w' h=>⟨⟨_,_,h.1⟩,h.2⟩
 ·exact(Za6 W).mono fun e w' h=>⟨⟨_,_,h.1⟩,h.2⟩
 ·exact(ZdJ W).mono fun e w' h=>⟨⟨_,_,h.1⟩,h.2⟩
 ·exact(Za5 W).mono fun e w' h=>⟨⟨_,_,h.1⟩,h.2⟩
 ·exact(Za4 W).mono fun e w' h=>⟨⟨_,_,h.1⟩,h.2⟩
 ·exact(Za3 W).mono fun e w' h=>⟨⟨_,_,h.1⟩,h.2⟩
 ·exact(Za2 W).mono fun e w' h=>⟨⟨_,_,h.1⟩,h.2⟩
 ·exact(Za1 W).mono fun e w' h=>⟨⟨_,_,h.1⟩,h.2⟩
set_option maxRecDepth 100000 in
set_option maxHeartbeats 2000000 in
theorem Zei (w:World) {t:Nat} (h1:1≤t) (h9:t≤9):Calls Tryz.prog 29 #[.string (ZA t)] w fun e w'=>e= .returned (.int .i64 (t:Int))∧Upd No w w':=by
 obtain⟨s,hs⟩:∃s,ZA t=s:=⟨_,rfl⟩;have HN:=Qh (fun k (h1:1≤k) (h2:k<t)=>Zcp h1 h2 h9);rw[hs]at HN ⊢;have HSE:=Qh hs;clear hs
 go_enter Tryz.func29,Tryz.ntmps29
 go_wp2
 go_loopg [3] 10 (fun gk i wr=>∃k:Nat,k+gk=11∧1≤k∧k≤t∧i= .int .i64 (k:Int)∧Hid (Upd No w wr))
 case atStart=>exact⟨1,by omega,by omega,by omega,rfl,Qh (Upd.refl _ _)⟩
 case round=>
  obtain⟨k,hgk,hk1,hkt,rfl,hu⟩:=hrel;have d1:decide ((k:Int)<13)=true:=decide_eq_true (by omega);have d2:decide (k<13)=true:=decide_eq_true (by omega);have CS:=Qh (ZdI wr (k:=k) hk1 (by omega))
  by_cases hlt:k<t
  ·have hne:=Zb7 (HN.out k hk1 hlt)
   generalize ZA k=sk at*
   go_wp2_with fail
   refine(CS.out).mono ?_;rintro e w5 ⟨⟨la,mo,rfl⟩,hu5⟩;have hfd:∀W:World,(Instr.field 66 (.agg #[.string sk,.int .i64 la,.int .i64 mo]) 0).run Tryz.prog W= .ok (.string sk) W:=fun W=>by kernel_rfl
   have HU5:=Qh (hu.out.trans hu5);clear hu5;go_wp2
   go_roundg (gk-1)
   case measure=>omega
   case rel=>exact⟨k+1,by omega,by omega,by omega,by go_num,HU5⟩
  ·obtain rfl:k=t:=by omega
   rw[HSE.out]at CS
   go_wp2_with fail
   refine(CS.out).mono ?_;rintro e w5 ⟨⟨la,mo,rfl⟩,hu5⟩;have hfd:∀W:World,(Instr.field 66 (.agg #[.string s,.int .i64 la,.int .i64 mo]) 0).run Tryz.prog W= .ok (.string s) W:=fun W=>by kernel_rfl
   have HU5:=Qh (hu.out.trans hu5);clear hu5;go_wp2
   go_ret
   exact⟨rfl,HU5.out⟩
theorem Zcn:SlT Tryz.prog 32 3 1 8:=SlT.mk_ Tryz.underlying32 (z:= .int .i64 0) (by kernel_rfl) rfl (by omega)
theorem Zc4 {ns:List Int} {k:Nat} (hk:k<ns.length):(ns.map Za)[k]'(by rw[List.length_map];exact hk)=Za ns[k]:=List.getElem_map ..
set_option maxRecDepth 100000 in
set_option maxHeartbeats 2000000 in
theorem Zal (w:World) (A:Option Addr) (c:Nat) (ns:List Int) (h:Strz (fun _=>True) w A (ns.map Za)) (hn:∀n∈ns,Zf n) (hl:ns.length≤1000):
  Calls Tryz.prog 47 #[.slice A ns.length c] w fun e w'=>∃B d,e= .returned (.tuple #[.slice B ns.length d,.int .i64 0])∧Ints (fun _=>True) w' B ns∧Upd No w w':=by
 have HS:=Qh h
 have CR:=Qh (fun W n (hm:n∈ns)=>by
  have h1:=hn n hm;unfold Zf at h1;have h2:=ZaA h1.1 (show n≤1000000000000 by omega);have h3:=ZaP W (Zc n) h2.1 (by omega) (by have:=Zaj n;omega);rw[h2.2]at h3;exact(show Calls Tryz.prog 60 #[.string (Za n)] W fun e w'=>e= .returned (.tuple #[.int .i64 n,.int .i64 0])∧W=w' from h3))
 clear h hn;obtain⟨N,hN⟩:∃N,ns.length=N:=⟨_,rfl⟩;have hl2:N≤1000:=by omega
 rw[hN]
 go_enter Tryz.func47,Tryz.ntmps47
 go_wp2
 go_loopg [4,11] N (fun gk sl i wr=>∃k:Nat,k+gk=N∧i= .int .i64 (k:Int)∧Hid (wr.ownsRow w.heap.size 3 1 sl k ((ns.take k).map (Value.int .i64)))∧Hid (Upd No w wr))
 case atStart=>exact⟨0,by omega,rfl,Qh ⟨rfl,.inl ⟨rfl,rfl⟩⟩,Qh (Upd.refl _ _)⟩
 case round=>
  obtain⟨k,hgk,rfl,ho,hu⟩:=hrel;obtain⟨B,d,rfl⟩:=Zbq ho.out
  by_cases hlt:k<N
  ·obtain⟨ad,hAd,_,_,q0⟩:=(HS.out.upd hu.out (fun _ _=>id)).at_ (k:=k) (by rw[List.length_map];omega);rw[Zc4 (ns:=ns) (by omega)]at q0;subst hAd;have CRK:=Qh (CR.out wr (ns[k]'(by omega)) (List.getElem_mem _));have HT:=Qh (show(ns.take (k+1)).map (Value.int .i64)=(ns.take k).map (Value.int .i64)++[.int .i64 (ns[k]'(by omega))] by rw[List.take_succ_eq_append_getElem (by omega),List.map_append];rfl)
   generalize (ns[k]'(by omega))=nk at*
   generalize Za nk=sk at*
   have b1:(0:Int)≤(k:Int):=Qn _;have b2:(k:Int)<(N:Int):=by omega
   go_wp2_with fail
   refine(CRK.out).mono ?_;rintro e w5 ⟨rfl,rfl⟩;have hsz:=hu.out.size
   go_wp2_with (at_builtin;refine ZS rfl rfl Zcn (base:=w.heap.size) (v:= .slice B k d) (n:=k) (xs:=(ns.take k).map (Value.int .i64)) (cells:=[.int .i64 nk]) (by rfl) (by rfl) ho.out rfl rfl (by omega) (by omega) (by omega) ?_;intro g9 c9 w9 hown9 hu9 hg9 hlt9;have HO9:=Qh hown9;have HU9:=Qh (hu.out.then_ hu9 fun j e=> .inr (ho.out.lt j e).1);clear hown9 hu9)
   go_roundg (gk-1)
   case measure=>omega
   case rel=>exact⟨k+1,by omega,by go_num,by rw[HT.out];exact HO9,HU9⟩
  ·obtain rfl:k=N:=by omega
   have HI:=Qh (Ints.of_own (xs:=ns) (by rw[←List.take_of_length_le (show ns.length≤k by omega)];exact ho.out));go_wp2
   go_ret2
   exact⟨B,d,rfl,fun hne=>by obtain⟨ad,e1,_,e2⟩:=HI.out hne;exact⟨ad,e1,trivial,e2⟩,hu.out⟩
end
end Go.Proofs.YtbcpoloakepnkaaGreatDoor
