/- Scripts out of numbers: the library's Split, Cut and Trim at this dump; slices of strings. -/
import Derived.Test.YtbcpoloakepnkaaGreatDoorLbac
import Derived.Test.YtbcpoloakepnkaaGreatDoorLbad
import Derived.Test.YtbcpoloakepnkaaGreatDoorLbae
import Derived.Test.YtbcpoloakepnkaaGreatDoorLbba
namespace Go.Proofs.YtbcpoloakepnkaaGreatDoor
set_option linter.unusedVariables false
set_option linter.unusedSimpArgs false
section
open Go.Shelf Go.RowKit
def MaxL (w:World):Prop:=∃m,w.cell? ⟨0,0,none⟩=some (.int .i64 m)
theorem MaxL.upd {w w':World} (h:MaxL w) (u:Upd No w w'):MaxL w':=by
 obtain⟨m,hm⟩:=h;exact⟨m,u.keepNo hm⟩
def Strz (F:Nat→Prop) (w:World) (A:Option Addr) (xs:List ByteArray):Prop:=
 xs≠[]→∃ad,A=some ad∧F ad.block∧ad.block<w.heap.size∧∀(j:Nat) (v:ByteArray),xs[j]? =some v→w.cell? (ad.add j)=some (.string v)
namespace Strz
variable {F S:Nat→Prop} {w w':World} {A:Option Addr} {xs:List ByteArray}
theorem at_ (h:Strz F w A xs) {k:Nat} (hk:k<xs.length):∃ad,A=some ad∧F ad.block∧ad.block<w.heap.size∧w.cell? (ad.add k)=some (.string xs[k]):=by
 obtain⟨ad,e,hf,hl,hc⟩:=h (by intro e;subst e;simp at hk);exact⟨ad,e,hf,hl,hc k _ (Qg hk)⟩
theorem upd (h:Strz F w A xs) (k:Upd S w w') (hn:∀i,F i→¬S i):Strz F w' A xs:=fun hne=>by
 obtain⟨ad,e,hf,hl,hc⟩:=h hne;exact⟨ad,e,hf,Nat.lt_of_lt_of_le hl k.size,fun j v hj=>(k.cell (by rw[Ints.block_add];exact hl) (by rw[Ints.block_add];exact hn _ hf)).trans (hc j v hj)⟩
theorem cut (h:Strz F w A xs) {i c:Nat} (hc:xs.length≤c):Strz F w (ZO A c i 1) (xs.drop i):=fun hne=>by
 have hi:i<xs.length:=by
  rcases Nat.lt_or_ge i xs.length with h|h
  ·exact h
  ·exact absurd (List.drop_of_length_le h) hne
 obtain⟨ad,rfl,hf,hl,hcc⟩:=h (by intro e;subst e;simp at hi);unfold ZO;rw[if_neg (by omega),Nat.mul_one];refine⟨ad.add i,rfl,by rw[Ints.block_add];exact hf,by rw[Ints.block_add];exact hl,fun j v hj=> ?_⟩;rw[Ints.add_add];exact hcc _ v (by rw[←hj,List.getElem?_drop])
end Strz
theorem Zdg (w:World) (hm:MaxL w) (ws:List ByteArray) (h:ws≠[]) (hc:∀x∈ws,(32:UInt8)∉x.data.toList) (hz:(Zo ws).size<4294967281):
  Calls Tryz.prog 33 #[.string (Zo ws),.string ⟨#[32]⟩] w fun e w'=>∃g,e= .returned (.slice (some ⟨g,0,none⟩) ws.length ws.length)∧Strz (fun _=>True) w' (some ⟨g,0,none⟩) ws∧Upd No w w':=by
 obtain⟨m,hm⟩:=hm;obtain⟨e1,e2⟩:=ZbU h hc;have c:=Any.strings_Split Zbo (by kernel_rfl) (Zo ws) ⟨#[32]⟩ m w hz hm (by decide);rw[e1,e2]at c;refine Calls.mono c ?_;rintro e w' ⟨rfl,rfl⟩;refine⟨_,rfl,fun _=>⟨_,rfl,trivial,?_,fun j v hj=> ?_⟩,(Upd.refl No w).alloc _⟩
 ·show w.heap.size<_
  simp
 ·exact ZbA (cs:=ws.map Value.string) j _ (by rw[List.getElem?_map,hj];rfl)
theorem Zbw (w:World) (hm:MaxL w) (s:ByteArray) (c:UInt8) {a b:ByteArray} {d:Bool} (hz:s.size<4294967281) (h:Lib.cut s.data.toList [c]=(a.data.toList,b.data.toList,d)):
  Calls Tryz.prog 82 #[.string s,.string ⟨#[c]⟩] w fun e w'=>e= .returned (.tuple #[.string a,.string b,.bool d])∧Upd No w w':=by
 obtain⟨m,hm⟩:=hm;have cc:=Any.strings_Cut Zdd s ⟨#[c]⟩ m w hz hm;rw[show(⟨#[c]⟩:ByteArray).data.toList=[c] from rfl,h]at cc;refine Calls.mono cc ?_;rintro e w' ⟨rfl,n,rfl⟩;exact⟨rfl,(Upd.refl No w).drewN n⟩
theorem Zd7 (w:World) (s:ByteArray) (hz:s.size≤1000000) (h:∀b∈s.data.toList,48≤b.toNat∧b.toNat≤57):
  Calls Tryz.prog 92 #[.string s,.string ⟨#[48,49,50,51,52,53,54,55,56,57]⟩] w fun e w'=>e= .returned (.string ⟨#[]⟩)∧Upd No w w':=by
 have hh:∀b∈s.data.toList,b∈[48,49,50,51,52,53,54,55,56,57]:=fun b hb=>by
  have h1:=h b hb;have h2:b=UInt8.ofNat b.toNat:=by simp
  rw[h2]
  generalize b.toNat=n at h1
  obtain rfl|rfl|rfl|rfl|rfl|rfl|rfl|rfl|rfl|rfl:n=48∨n=49∨n=50∨n=51∨n=52∨n=53∨n=54∨n=55∨n=56∨n=57:=by omega
  all_goals decide
 have c:=Any.strings_Trim_laid Zcl (by kernel_rfl) s ⟨#[48,49,50,51,52,53,54,55,56,57]⟩ w (by omega) (by decide) (ascii_of_all (by decide));rw[show Lib.trimS s.data.toList (⟨#[48,49,50,51,52,53,54,55,56,57]⟩:ByteArray).data.toList=[] from Zcm hh]at c;refine Calls.mono c ?_;rintro e w' ⟨rfl,hb⟩;exact⟨rfl,Upd.of_below hb⟩
set_option maxRecDepth 100000 in
theorem ZaV (w:World) (l:List UInt8) (h:ZR l) (hl:l.length≤1000):
  Calls Tryz.prog 83 #[.string ⟨l.toArray⟩] w fun e w'=>e= .returned (.bool true)∧Upd No w w':=by
 have CT:=Qh (Zd7 w ⟨l.toArray⟩ (by show Array.size _≤_;rw[List.size_toArray];omega) (fun b hb=>h.2.1 b (by simpa using hb)))
 have he:(⟨l.toArray⟩:ByteArray).toList.isEmpty=false:=by
  rw[Lib.toList_data]
  cases l with
  |nil=>exact absurd rfl h.1
  |cons x t=>rfl
 generalize (⟨l.toArray⟩:ByteArray)=s at*
 clear h
 go_enter Tryz.func83,Tryz.ntmps83
 go_wp2_with fail
 refine(CT.out).mono ?_;rintro e w1 ⟨rfl,hu1⟩;go_wp2
 go_ret
 exact⟨rfl,hu1⟩
end
/- Scripts out of numbers:an operation is read. -/
section
open Go.RowKit
theorem Strz.of_own {w:World} {base:Nat} {e:TypeId} {n c:Nat} {A:Option Addr} {xs:List ByteArray} (h:w.ownsRow base e 1 (.slice A n c) n (Zs xs)):Strz (fun _=>True) w A xs:=fun hne=>by
 rcases h.2 with ⟨_,h2⟩|⟨g,cap,cur,hv,h3,h4,h5,h6,h7,h8⟩
 ·have:=h.1;unfold Zs at this;simp at this;have:0<xs.length:=List.length_pos_iff.2 hne;omega
 ·cases hv
  exact⟨_,rfl,trivial,(h.lt g rfl).2,fun j v hj=>h.cells (g:=g) rfl j _ (by unfold Zs;rw[List.getElem?_map,hj];rfl)⟩
theorem Strz.drewN_ {F:Nat→Prop} {w:World} {A:Option Addr} {xs:List ByteArray} (h:Strz F w A xs) (n:Nat):Strz F (w.drewN n) A xs:=h
theorem ZcF (c:UInt8) (l:List UInt8):(⟨(c::l).toArray⟩:ByteArray).extract 1 (l.length+1)=⟨l.toArray⟩:=by
 apply Zan
 simp
theorem Zag {ds:List (List UInt8)} {k:Nat} (hk:k<ds.length):(ds.map fun d=>(⟨d.toArray⟩:ByteArray))[k]'(by rw[List.length_map];exact hk)=⟨(ds[k]).toArray⟩:=List.getElem_map ..
set_option maxRecDepth 100000 in
set_option maxHeartbeats 2000000 in
theorem Zej (w:World) (hm:MaxL w) (l:List UInt8) (h:ZR l) (hl:l.length≤100):
  Calls Tryz.prog 73 #[.string ⟨(119::l).toArray⟩] w fun e w'=>∃A c,e= .returned (.tuple #[.slice A 1 c,.bool true])∧Strz (fun _=>True) w' A ([l].map fun d=>(⟨d.toArray⟩:ByteArray))∧Upd No w w':=by
 obtain⟨s,hs⟩:∃s:ByteArray,⟨(119::l).toArray⟩=s:=⟨_,rfl⟩;obtain⟨b,hb⟩:∃b:ByteArray,⟨(l).toArray⟩=b:=⟨_,rfl⟩;obtain⟨bl,hbn⟩:∃bl,(l).length=bl:=⟨_,rfl⟩;have hz:s.size=bl+1:=by rw[←hs,←hbn];show Array.size _=_;rw[List.size_toArray];rfl
 have hbz:b.size=bl:=by rw[←hb,←hbn];show Array.size _=_;rw[List.size_toArray]
 have hs0:s[0]'(by omega)=119:=by subst hs;rfl
 have he:s.extract 1 (bl+1)=b:=by rw[←hs,←hb,←hbn];exact ZcF _ _
 have hbl:b.data.toList=l:=by rw[←hb]
 have n64:(64:UInt8)∉l:=fun e=>absurd (h.2.1 _ e).2 (by decide)
 have CC:=Qh (Zbw w hm b 64 (a:=b) (b:=⟨#[]⟩) (d:=false) (by omega) (by rw[hbl];exact ZbG n64));have hdd:∀d∈[l],ZR d∧d.length≤100:=by simp only[List.mem_cons,List.not_mem_nil,or_false];rintro d rfl<;>exact⟨by assumption,by assumption⟩
 have CF:=Qh (fun W d (hd:d∈[l])=>ZaV W d (hdd d hd).1 (by have:=(hdd d hd).2;omega));have HSX:=Qh (show Zs ([l].map fun d=>(⟨d.toArray⟩:ByteArray))=[.string b] by rw[←hb];rfl);rw[hs];clear hs hb hbl hdd
 go_enter Tryz.func73,Tryz.ntmps73
 go_wp2_with fail
 refine(CC.out).mono ?_;rintro e w1 ⟨rfl,hu1⟩;obtain⟨y,hy⟩:∃y,w1.heap.size=y:=⟨_,rfl⟩;obtain⟨w3,hw3⟩:∃w3,w1.alloc (.cells #[.string b] 9)=w3:=⟨_,rfl⟩;have HO:=Qh (show w3.ownsRow w.heap.size 9 1 (.slice (some ⟨y,0,none⟩) 1 1) 1 (Zs ([l].map fun d=>(⟨d.toArray⟩:ByteArray))) by rw[HSX.out,←hw3,←hy];exact ZG w1 hu1.size _);have HU3:=Qh (show Upd No w w3 by rw[←hw3];exact hu1.alloc _);have HS:=Qh (Strz.of_own HO.out);clear hu1;clear HO HSX;go_wp2
 generalize (some (⟨y,0,none⟩):Option Addr)=A at*
 go_loopg [2,39] 1 (fun gk r i wr=>∃k:Nat,k+gk=1∧i= .int .i64 (k:Int)∧r= .slice A 1 1∧Hid (Upd No w3 wr))
 case atStart=>exact⟨0,by omega,rfl,rfl,Qh (Upd.refl _ _)⟩
 case round=>
  obtain⟨k,hgk,rfl,rfl,hu⟩:=hrel
  by_cases hlt:k<1
  ·obtain⟨ad,hAd,_,_,q0⟩:=(HS.out.upd hu.out (fun _ _=>id)).at_ (k:=k) (by rw[List.length_map];exact hlt);rw[Zag (ds:=[l]) hlt]at q0;subst hAd;have CFK:=Qh (CF.out wr ([l])[k] (List.getElem_mem hlt))
   generalize (⟨(([l])[k]).toArray⟩:ByteArray)=sk at*
   have b1:(0:Int)≤(k:Int):=Qn _;have b2:(k:Int)<(1:Int):=by omega
   go_wp2_with fail
   refine(CFK.out).mono ?_;rintro e w5 ⟨rfl,hu5⟩;have HU5:=Qh (hu.out.trans hu5);clear hu5;go_wp2
   go_roundg (gk-1)
   case measure=>omega
   case rel=>exact⟨k+1,by omega,by go_num,rfl,HU5⟩
  ·obtain rfl:k=1:=by omega
   go_upto_region 14 with fail
   go_quiet (fail)
   go_wp2
   go_ret2
   exact⟨A,1,rfl,(HS.out.upd hu.out (fun _ _=>id)).drewN_ _,(HU3.out.trans hu.out).drewN _⟩
set_option maxRecDepth 100000 in
set_option maxHeartbeats 2000000 in
theorem Zel (w:World) (hm:MaxL w) (l l2:List UInt8) (h:ZR l) (h2:ZR l2) (hl:l.length≤100) (hl2:l2.length≤100):
  Calls Tryz.prog 73 #[.string ⟨(114::(l++64::l2)).toArray⟩] w fun e w'=>∃A c,e= .returned (.tuple #[.slice A 2 c,.bool true])∧Strz (fun _=>True) w' A ([l,l2].map fun d=>(⟨d.toArray⟩:ByteArray))∧Upd No w w':=by
 obtain⟨s,hs⟩:∃s:ByteArray,⟨(114::(l++64::l2)).toArray⟩=s:=⟨_,rfl⟩;obtain⟨b,hb⟩:∃b:ByteArray,⟨((l++64::l2)).toArray⟩=b:=⟨_,rfl⟩;obtain⟨bl,hbn⟩:∃bl,((l++64::l2)).length=bl:=⟨_,rfl⟩;have hz:s.size=bl+1:=by rw[←hs,←hbn];show Array.size _=_;rw[List.size_toArray];rfl
 have hbz:b.size=bl:=by rw[←hb,←hbn];show Array.size _=_;rw[List.size_toArray]
 have hs0:s[0]'(by omega)=114:=by subst hs;rfl
 have he:s.extract 1 (bl+1)=b:=by rw[←hs,←hb,←hbn];exact ZcF _ _
 have hbl:b.data.toList=(l++64::l2):=by rw[←hb]
 have hlen:bl≤300:=by rw[←hbn];simp;omega
 obtain⟨p,hp⟩:∃p:ByteArray,⟨l.toArray⟩=p:=⟨_,rfl⟩;obtain⟨q,hq⟩:∃q:ByteArray,⟨l2.toArray⟩=q:=⟨_,rfl⟩;have hqz:q.size=l2.length:=by rw[←hq];show Array.size _=_;rw[List.size_toArray]
 have n64:(64:UInt8)∉l:=fun e=>absurd (h.2.1 _ e).2 (by decide)
 have n46:(46:UInt8)∉l2:=fun e=>absurd (h2.2.1 _ e).1 (by decide)
 have CC:=Qh (Zbw w hm b 64 (a:=p) (b:=q) (d:=true) (by omega) (by rw[hbl,←hp,←hq];exact Zbi n64));have CE:=Qh (fun W (u:Upd No w W)=>Zbw W (hm.upd u) q 46 (a:=q) (b:=⟨#[]⟩) (d:=false) (by omega) (by rw[←hq];exact ZbG n46));have hdd:∀d∈[l,l2],ZR d∧d.length≤100:=by simp only[List.mem_cons,List.not_mem_nil,or_false];rintro d (rfl|rfl)<;>exact⟨by assumption,by assumption⟩
 have CF:=Qh (fun W d (hd:d∈[l,l2])=>ZaV W d (hdd d hd).1 (by have:=(hdd d hd).2;omega));have HSX:=Qh (show Zs ([l,l2].map fun d=>(⟨d.toArray⟩:ByteArray))=Zs [p]++[.string q] by rw[←hp,←hq];rfl);rw[hs];clear hs hb hbl hp hq hqz hdd
 go_enter Tryz.func73,Tryz.ntmps73
 go_wp2_with fail
 refine(CC.out).mono ?_;rintro e w1 ⟨rfl,hu1⟩;obtain⟨y,hy⟩:∃y,w1.heap.size=y:=⟨_,rfl⟩;obtain⟨w3,hw3⟩:∃w3,w1.alloc (.cells #[.string p] 9)=w3:=⟨_,rfl⟩;have HO3:=Qh (show w3.ownsRow w.heap.size 9 1 (.slice (some ⟨y,0,none⟩) 1 1) 1 (Zs [p]) by rw[←hw3,←hy];exact ZG w1 hu1.size _);have HU3:=Qh (show Upd No w w3 by rw[←hw3];exact hu1.alloc _);have CE3:=Qh (CE.out w3 HU3.out);clear hu1
 go_wp2_with fail
 refine(CE3.out).mono ?_;rintro e w4 ⟨rfl,hu4⟩;have HO4:=Qh (Zh HO3.out hu4 (fun _ _=>id));have HU4:=Qh (HU3.out.trans hu4);clear hu4 HO3 hw3
 go_wp2_with (at_builtin;refine ZS rfl rfl Zz (base:=w.heap.size) (v:= .slice (some ⟨y,0,none⟩) 1 1) (n:=1) (xs:=(Zs [p])) (cells:=[.string q]) (by rfl) (by rfl) HO4.out rfl rfl (by omega) (by omega) (by have:=HU4.out.size;omega) ?_;intro g5 c5 w5 hown hu hg hlt;skip;have HO5:=Qh hown;have HU5:=Qh (HU4.out.then_ hu fun j e=> .inr (HO4.out.lt j e).1);clear hown hu hg)
 have HS:=Qh (Strz.of_own (xs:=[l,l2].map fun d=>(⟨d.toArray⟩:ByteArray)) (by rw[HSX.out];exact HO5.out));have HU3:=HU5;clear HO5 HO4 HSX CE CE3 CC HU4;go_wp2
 generalize (some (⟨g5,0,none⟩):Option Addr)=A at*
 go_loopg [2,39] 2 (fun gk r i wr=>∃k:Nat,k+gk=2∧i= .int .i64 (k:Int)∧r= .slice A 2 c5∧Hid (Upd No w5 wr))
 case atStart=>exact⟨0,by omega,rfl,rfl,Qh (Upd.refl _ _)⟩
 case round=>
  obtain⟨k,hgk,rfl,rfl,hu⟩:=hrel
  by_cases hlt:k<2
  ·obtain⟨ad,hAd,_,_,q0⟩:=(HS.out.upd hu.out (fun _ _=>id)).at_ (k:=k) (by rw[List.length_map];exact hlt);rw[Zag (ds:=[l,l2]) hlt]at q0;subst hAd;have CFK:=Qh (CF.out wr ([l,l2])[k] (List.getElem_mem hlt))
   generalize (⟨(([l,l2])[k]).toArray⟩:ByteArray)=sk at*
   have b1:(0:Int)≤(k:Int):=Qn _;have b2:(k:Int)<(2:Int):=by omega
   go_wp2_with fail
   refine(CFK.out).mono ?_;rintro e w5 ⟨rfl,hu5⟩;have HU5:=Qh (hu.out.trans hu5);clear hu5;go_wp2
   go_roundg (gk-1)
   case measure=>omega
   case rel=>exact⟨k+1,by omega,by go_num,rfl,HU5⟩
  ·obtain rfl:k=2:=by omega
   go_upto_region 14 with fail
   go_quiet (fail)
   go_wp2
   go_ret2
   exact⟨A,c5,rfl,(HS.out.upd hu.out (fun _ _=>id)).drewN_ _,(HU3.out.trans hu.out).drewN _⟩
set_option maxRecDepth 100000 in
set_option maxHeartbeats 2000000 in
theorem Zek (w:World) (hm:MaxL w) (l l2 l3:List UInt8) (h:ZR l) (h2:ZR l2) (h3:ZR l3) (hl:l.length≤100) (hl2:l2.length≤100) (hl3:l3.length≤100):
  Calls Tryz.prog 73 #[.string ⟨(114::(l++64::(l2++46::l3))).toArray⟩] w fun e w'=>∃A c,e= .returned (.tuple #[.slice A 3 c,.bool true])∧Strz (fun _=>True) w' A ([l,l2,l3].map fun d=>(⟨d.toArray⟩:ByteArray))∧Upd No w w':=by
 obtain⟨s,hs⟩:∃s:ByteArray,⟨(114::(l++64::(l2++46::l3))).toArray⟩=s:=⟨_,rfl⟩;obtain⟨b,hb⟩:∃b:ByteArray,⟨((l++64::(l2++46::l3))).toArray⟩=b:=⟨_,rfl⟩;obtain⟨bl,hbn⟩:∃bl,((l++64::(l2++46::l3))).length=bl:=⟨_,rfl⟩;have hz:s.size=bl+1:=by rw[←hs,←hbn];show Array.size _=_;rw[List.size_toArray];rfl
 have hbz:b.size=bl:=by rw[←hb,←hbn];show Array.size _=_;rw[List.size_toArray]
 have hs0:s[0]'(by omega)=114:=by subst hs;rfl
 have he:s.extract 1 (bl+1)=b:=by rw[←hs,←hb,←hbn];exact ZcF _ _
 have hbl:b.data.toList=(l++64::(l2++46::l3)):=by rw[←hb]
 have hlen:bl≤400:=by rw[←hbn];simp;omega
 obtain⟨p,hp⟩:∃p:ByteArray,⟨l.toArray⟩=p:=⟨_,rfl⟩;obtain⟨q,hq⟩:∃q:ByteArray,⟨l2.toArray⟩=q:=⟨_,rfl⟩;obtain⟨r,hr⟩:∃r:ByteArray,⟨l3.toArray⟩=r:=⟨_,rfl⟩;obtain⟨qr,hqr⟩:∃r:ByteArray,⟨(l2++46::l3).toArray⟩=r:=⟨_,rfl⟩;have hqz:qr.size≤300:=by rw[←hqr];show Array.size _≤_;rw[List.size_toArray];simp;omega
 have n64:(64:UInt8)∉l:=fun e=>absurd (h.2.1 _ e).2 (by decide)
 have n46:(46:UInt8)∉l2:=fun e=>absurd (h2.2.1 _ e).1 (by decide)
 have CC:=Qh (Zbw w hm b 64 (a:=p) (b:=qr) (d:=true) (by omega) (by rw[hbl,←hp,←hqr];exact Zbi n64));have CE:=Qh (fun W (u:Upd No w W)=>Zbw W (hm.upd u) qr 46 (a:=q) (b:=r) (d:=true) (by omega) (by rw[←hq,←hqr,←hr];exact Zbi n46));have hdd:∀d∈[l,l2,l3],ZR d∧d.length≤100:=by simp only[List.mem_cons,List.not_mem_nil,or_false];rintro d (rfl|rfl|rfl)<;>exact⟨by assumption,by assumption⟩
 have CF:=Qh (fun W d (hd:d∈[l,l2,l3])=>ZaV W d (hdd d hd).1 (by have:=(hdd d hd).2;omega));have HSX:=Qh (show Zs ([l,l2,l3].map fun d=>(⟨d.toArray⟩:ByteArray))=Zs [p]++[.string q]++[.string r] by rw[←hp,←hq,←hr];rfl);rw[hs];clear hs hb hbl hp hq hr hqr hqz hdd
 go_enter Tryz.func73,Tryz.ntmps73
 go_wp2_with fail
 refine(CC.out).mono ?_;rintro e w1 ⟨rfl,hu1⟩;obtain⟨y,hy⟩:∃y,w1.heap.size=y:=⟨_,rfl⟩;obtain⟨w3,hw3⟩:∃w3,w1.alloc (.cells #[.string p] 9)=w3:=⟨_,rfl⟩;have HO3:=Qh (show w3.ownsRow w.heap.size 9 1 (.slice (some ⟨y,0,none⟩) 1 1) 1 (Zs [p]) by rw[←hw3,←hy];exact ZG w1 hu1.size _);have HU3:=Qh (show Upd No w w3 by rw[←hw3];exact hu1.alloc _);have CE3:=Qh (CE.out w3 HU3.out);clear hu1
 go_wp2_with fail
 refine(CE3.out).mono ?_;rintro e w4 ⟨rfl,hu4⟩;have HO4:=Qh (Zh HO3.out hu4 (fun _ _=>id));have HU4:=Qh (HU3.out.trans hu4);clear hu4 HO3 hw3 CE3 CC CE
 go_upto_region 6 with (at_builtin;refine ZS rfl rfl Zz (base:=w.heap.size) (v:= .slice (some ⟨y,0,none⟩) 1 1) (n:=1) (xs:=(Zs [p])) (cells:=[.string q]) (by rfl) (by rfl) HO4.out rfl rfl (by omega) (by omega) (by have:=HU4.out.size;omega) ?_;intro g5 c5 w5 hown hu hg hlt;skip;have HO5:=Qh hown;have HU5:=Qh (HU4.out.then_ hu fun j e=> .inr (HO4.out.lt j e).1);clear hown hu hg)
 go_wp2_with (at_builtin;refine ZS rfl rfl Zz (base:=w.heap.size) (v:= .slice (some ⟨g5,0,none⟩) 2 c5) (n:=2) (xs:=(Zs [p]++[.string q])) (cells:=[.string r]) (by rfl) (by rfl) HO5.out rfl rfl (by omega) (by omega) (by have:=HU5.out.size;omega) ?_;intro g6 c6 w6 hown hu hg hlt;skip;have HO6:=Qh hown;have HU6:=Qh (HU5.out.then_ hu fun j e=> .inr (HO5.out.lt j e).1);clear hown hu hg)
 have HS:=Qh (Strz.of_own (xs:=[l,l2,l3].map fun d=>(⟨d.toArray⟩:ByteArray)) (by rw[HSX.out];exact HO6.out));have HU3:=HU6;clear HO5 HO4 HSX HU4 HO6;go_wp2
 generalize (some (⟨g6,0,none⟩):Option Addr)=A at*
 go_loopg [2,39] 3 (fun gk r i wr=>∃k:Nat,k+gk=3∧i= .int .i64 (k:Int)∧r= .slice A 3 c6∧Hid (Upd No w6 wr))
 case atStart=>exact⟨0,by omega,rfl,rfl,Qh (Upd.refl _ _)⟩
 case round=>
  obtain⟨k,hgk,rfl,rfl,hu⟩:=hrel
  by_cases hlt:k<3
  ·obtain⟨ad,hAd,_,_,q0⟩:=(HS.out.upd hu.out (fun _ _=>id)).at_ (k:=k) (by rw[List.length_map];exact hlt);rw[Zag (ds:=[l,l2,l3]) hlt]at q0;subst hAd;have CFK:=Qh (CF.out wr ([l,l2,l3])[k] (List.getElem_mem hlt))
   generalize (⟨(([l,l2,l3])[k]).toArray⟩:ByteArray)=sk at*
   have b1:(0:Int)≤(k:Int):=Qn _;have b2:(k:Int)<(3:Int):=by omega
   go_wp2_with fail
   refine(CFK.out).mono ?_;rintro e w5 ⟨rfl,hu5⟩;have HU5:=Qh (hu.out.trans hu5);clear hu5;go_wp2
   go_roundg (gk-1)
   case measure=>omega
   case rel=>exact⟨k+1,by omega,by go_num,rfl,HU5⟩
  ·obtain rfl:k=3:=by omega
   go_upto_region 14 with fail
   go_quiet (fail)
   go_wp2
   go_ret2
   exact⟨A,c6,rfl,(HS.out.upd hu.out (fun _ _=>id)).drewN_ _,(HU3.out.trans hu.out).drewN _⟩
end
end Go.Proofs.YtbcpoloakepnkaaGreatDoor
