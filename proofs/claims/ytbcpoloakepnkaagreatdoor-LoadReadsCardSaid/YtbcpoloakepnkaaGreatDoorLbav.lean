/- A transaction's text: the program's. -/
import Derived.Test.YtbcpoloakepnkaaGreatDoorLbam
import Derived.Test.YtbcpoloakepnkaaGreatDoorLbao
namespace Go.Proofs.YtbcpoloakepnkaaGreatDoor
set_option linter.unusedVariables false
set_option linter.unusedSimpArgs false
section
open Go.RowKit
def BSx (wb:World) (b:Nat) (l:List UInt8) (W:World):Prop:=∃G,Bld W G b l∧(∀j,G j→wb.heap.size≤j)∧Upd No wb W
namespace BSx
variable {wb W W':World} {b:Nat} {l:List UInt8}
theorem no (h:BSx wb b l W) (u:Upd No W W'):BSx wb b l W':=by
 obtain⟨G,h1,h2,h3⟩:=h;exact⟨G,h1.upd u (fun _ _=>id),h2,h3.trans u⟩
theorem upd (h:BSx wb b l W):Upd No wb W:=by
 obtain⟨G,h1,h2,h3⟩:=h;exact h3
theorem fresh (wb:World):BSx wb wb.heap.size [] (wb.alloc (.cells #[.pointer none,.slice none 0 0] 55)):=⟨_,Bld.fresh wb,fun j hj=>by omega,(Upd.refl No wb).alloc _⟩
theorem write (h:BSx wb b l W) (s:ByteArray) (hl:l.length+s.size≤140737488355328):Calls Tryz.prog 25 #[.pointer (some ⟨b,0,none⟩),.string s] W fun e w'=>e= .returned (.tuple #[.int .i64 s.size,.nilIface])∧BSx wb b (l++s.data.toList) w':=by
 obtain⟨G,h1,h2,h3⟩:=h;refine(Zde W G b l s h1 hl).mono ?_;rintro e w2 ⟨rfl,G1,hB1,hu2,hG1⟩;refine⟨rfl,G1,hB1,fun j hj=> ?_,h3.then_ hu2 fun j hj=> .inr (h2 j hj)⟩;rcases hG1 j hj with e|e
 ·exact h2 j e
 ·have:=h3.size;omega
theorem str (h:BSx wb b l W) (hb:wb.heap.size≤b):Calls Tryz.prog 26 #[.pointer (some ⟨b,0,none⟩)] W fun e w'=>e= .returned (.string ⟨l.toArray⟩)∧Upd No wb w':=by
 obtain⟨G,h1,h2,h3⟩:=h;refine(ZcK _ _ _ _ h1).mono ?_;rintro e w' ⟨rfl,hbl⟩;exact⟨rfl,h3.then_ (T:=fun j=>b≤j) ⟨hbl.os,hbl.tape,hbl.output,hbl.size,fun j hj hn=>hbl.block j (by omega)⟩ fun j hj=> .inr (by omega)⟩
end BSx
theorem Zbd (s:ByteArray):s.data.toList.length=s.size:=by
 rw[Array.length_toList];rfl
theorem Zav (i:Int) (d:Bool):∀l:List HOp,(Zp i d l).length≤23+71*l.length:=by
 intro l;have h1:=Zaj i
 have h2:∀l:List HOp,(l.flatMap fun o=>32::(Zb o).data.toList).length≤71*l.length:=by
  intro l
  induction l with
  |nil=>simp
  |cons o l ih=>
   rw[List.flatMap_cons,List.length_append,List.length_cons,List.length_cons];have:=ZM o;have e:=Zbd (Zb o);omega
 have h3:=h2 l;unfold Zp;rw[List.length_append,List.length_append];simp only[List.length_cons,List.length_nil];omega
set_option maxRecDepth 100000 in
set_option maxHeartbeats 1000000 in
theorem Zdq (F:Nat→Prop) (w:World) (i:Int) (d:Bool) (A:Option Addr) (c:Nat) (l:List HOp) (hi:i64 i) (h:HOps F w A l) (hl:l.length≤100000) (hok:∀o∈l,o.ok):
  Calls Tryz.prog 35 #[.agg #[.int .i64 i,.bool d,.slice A l.length c]] w fun e w'=>e= .returned (.string ⟨(Zp i d l).toArray⟩)∧Upd No w w':=by
 obtain⟨z,hz⟩:∃z,w.heap.size=z:=⟨_,rfl⟩;obtain⟨wb,hwb⟩:∃wb,w.alloc (.cells #[.int .i64 i,.bool d,.slice A l.length c] 31)=wb:=⟨_,rfl⟩;have ub:Upd No w wb:=by rw[←hwb];exact(Upd.refl No w).alloc _
 have sb:wb.heap.size=z+1:=by rw[←hwb,←hz];simp
 have bb:Blk wb z 31 [.int .i64 i,.bool d,.slice A l.length c]:=by rw[←hwb,←hz];exact Blk.new w _ _
 obtain⟨wc,hwc⟩:∃wc,wb.alloc (.cells #[.pointer none,.slice none 0 0] 55)=wc:=⟨_,rfl⟩;have hb0:BSx wb (z+1) [] wc:=by rw[←hwc,←sb];exact BSx.fresh wb
 have t0:∀W,Upd No wb W→W.cell? ⟨z,0,none⟩=some (.int .i64 i):=fun W u=>(bb.upd u id).cell 0
 have t1:∀W,Upd No wb W→W.cell? ⟨z,1,none⟩=some (.bool d):=fun W u=>(bb.upd u id).cell 1
 have t2:∀W,Upd No wb W→W.cell? ⟨z,2,none⟩=some (.slice A l.length c):=fun W u=>(bb.upd u id).cell 2
 have hbz:Upd No wb wc:=hb0.upd;have HB0:=Qh hb0;have HH:=Qh (fun W (u:Upd No wb W)=>HOps.upd h (ub.trans u) (fun _ _=>id));have UB:=Qh ub;have HI:=Qh hi;have HOK:=Qh hok;have n1:=Ze i;have m1:(⟨#[32,97]⟩:ByteArray).size=2:=rfl;have m2:(⟨#[32,99]⟩:ByteArray).size=2:=rfl;have m3:(⟨#[32]⟩:ByteArray).size=1:=rfl;have SB:=Qh sb;clear bb ub h hi hok hb0
 go_enter Tryz.func35,Tryz.ntmps35
 go_wp2_with fail
 refine(Z9 _ i HI.out.1 HI.out.2).mono ?_;rintro e w1 ⟨rfl,hu1⟩;have HW:=Qh ((HB0.out.no hu1).write (Za i) (by simp only[List.length_nil];omega));clear hu1
 go_wp2_with fail
 refine(HW.out).mono ?_;rintro e w2 ⟨rfl,hb2⟩;have HB2:=Qh hb2;have hu2:=hb2.upd;clear hb2
 cases d
 ·have HW3:=Qh (HB2.out.write ⟨#[32,97]⟩ (by rw[List.nil_append,Zbd];omega))
  go_wp2_with fail
  refine(HW3.out).mono ?_;rintro e w3 ⟨rfl,hb3⟩;have HB3:=Qh (show BSx wb (z+1) (Zp i false (l.take 0)) w3 by rw[show Zp i false (l.take 0)=[]++(Za i).data.toList++(⟨#[32,97]⟩:ByteArray).data.toList from(by unfold Zp Za;simp)];exact hb3);have hu3:=hb3.upd;clear hb3 hu2;go_wp2;clear hu3
  go_loopg [17] l.length (fun gk j wr=>∃k:Nat,k+gk=l.length∧j= .int .i64 (k:Int)∧Hid (BSx wb (z+1) (Zp i false (l.take k)) wr))
  case atStart=>exact⟨0,by omega,rfl,HB3⟩
  case round=>
   obtain⟨k,hgk,rfl,hst⟩:=hrel
   by_cases hlt:k<l.length
   ·obtain⟨ad,hAd,q0,q1,q2,q3⟩:=(HH.out _ hst.out.upd).at_ hlt;obtain⟨x,hx⟩:∃x,l[k]=x:=⟨_,rfl⟩;rw[hx]at q0 q1 q2 q3;subst hAd;have HS:=Qh (Zbl i false hlt hx);have hxo:x.ok:=HOK.out x (hx▸List.getElem_mem hlt);have b1:(0:Int)≤(k:Int):=Qn _;have b2:(k:Int)<(l.length:Int):=by omega
    have n2:=ZM x;have p3:¬9223372036854775807<1+(Zb x).size:=by omega
    obtain⟨zx,hzx⟩:∃zx,wr.heap.size=zx:=⟨_,rfl⟩;obtain⟨wx,hwx⟩:∃wx,wr.alloc (.cells #[.bool x.read,.int .i64 x.key,.int .i64 x.tx,.int .i64 x.nth] 82)=wx:=⟨_,rfl⟩;have ux:Upd No wr wx:=by rw[←hwx];exact(Upd.refl No wr).alloc _
    have bx:Blk wx zx 82 [.bool x.read,.int .i64 x.key,.int .i64 x.tx,.int .i64 x.nth]:=by rw[←hwx,←hzx];exact Blk.new wr _ _
    have x0:=bx.cell 0;have x1:=bx.cell 1;have x2:=bx.cell 2;have x3:=bx.cell 3;simp only[Qz,Qs]at x0 x1 x2 x3;have HT:=Qh (Zcb wx x hxo);unfold HOp.cells at HT;have UX:=Qh ux;have hln:=Zav i false (l.take k);rw[List.length_take]at hln;have HLN:=Qh (show(Zp i false (l.take k)).length+(⟨#[32]⟩++Zb x:ByteArray).size≤140737488355328 by rw[ByteArray.size_append];omega);have HE:=Qh (show Zp i false (l.take k)++(⟨#[32]⟩++Zb x:ByteArray).data.toList=Zp i false (l.take (k+1)) by rw[HS.out];simp);clear hx hxo ux bx hln
    go_wp2_with fail
    refine(HT.out).mono ?_;rintro e w5 ⟨rfl,hu5⟩;have HW:=Qh ((hst.out.no (UX.out.trans hu5)).write (⟨#[32]⟩++Zb x) HLN.out);rw[HE.out]at HW;clear hu5
    go_wp2_with fail
    refine(HW.out).mono ?_;rintro e w6 ⟨rfl,hb6⟩;have HB6:=Qh hb6;clear hb6;go_wp2
    go_roundg (gk-1)
    case measure=>omega
    case rel=>exact⟨k+1,by omega,by go_num,HB6⟩
   ·obtain rfl:k=l.length:=by omega
    have HST:=Qh (hst.out.str (by omega));rw[List.take_length]at HST
    go_wp2_with fail
    refine(HST.out).mono ?_;rintro e w7 ⟨rfl,hu7⟩;go_wp2
    go_ret
    exact⟨rfl,UB.out.trans hu7⟩
 ·have HW3:=Qh (HB2.out.write ⟨#[32,99]⟩ (by rw[List.nil_append,Zbd];omega))
  go_wp2_with fail
  refine(HW3.out).mono ?_;rintro e w3 ⟨rfl,hb3⟩;have HB3:=Qh (show BSx wb (z+1) (Zp i true (l.take 0)) w3 by rw[show Zp i true (l.take 0)=[]++(Za i).data.toList++(⟨#[32,99]⟩:ByteArray).data.toList from(by unfold Zp Za;simp)];exact hb3);have hu3:=hb3.upd;clear hb3 hu2;go_wp2;clear hu3
  go_loopg [17] l.length (fun gk j wr=>∃k:Nat,k+gk=l.length∧j= .int .i64 (k:Int)∧Hid (BSx wb (z+1) (Zp i true (l.take k)) wr))
  case atStart=>exact⟨0,by omega,rfl,HB3⟩
  case round=>
   obtain⟨k,hgk,rfl,hst⟩:=hrel
   by_cases hlt:k<l.length
   ·obtain⟨ad,hAd,q0,q1,q2,q3⟩:=(HH.out _ hst.out.upd).at_ hlt;obtain⟨x,hx⟩:∃x,l[k]=x:=⟨_,rfl⟩;rw[hx]at q0 q1 q2 q3;subst hAd;have HS:=Qh (Zbl i true hlt hx);have hxo:x.ok:=HOK.out x (hx▸List.getElem_mem hlt);have b1:(0:Int)≤(k:Int):=Qn _;have b2:(k:Int)<(l.length:Int):=by omega
    have n2:=ZM x;have p3:¬9223372036854775807<1+(Zb x).size:=by omega
    obtain⟨zx,hzx⟩:∃zx,wr.heap.size=zx:=⟨_,rfl⟩;obtain⟨wx,hwx⟩:∃wx,wr.alloc (.cells #[.bool x.read,.int .i64 x.key,.int .i64 x.tx,.int .i64 x.nth] 82)=wx:=⟨_,rfl⟩;have ux:Upd No wr wx:=by rw[←hwx];exact(Upd.refl No wr).alloc _
    have bx:Blk wx zx 82 [.bool x.read,.int .i64 x.key,.int .i64 x.tx,.int .i64 x.nth]:=by rw[←hwx,←hzx];exact Blk.new wr _ _
    have x0:=bx.cell 0;have x1:=bx.cell 1;have x2:=bx.cell 2;have x3:=bx.cell 3;simp only[Qz,Qs]at x0 x1 x2 x3;have HT:=Qh (Zcb wx x hxo);unfold HOp.cells at HT;have UX:=Qh ux;have hln:=Zav i true (l.take k);rw[List.length_take]at hln;have HLN:=Qh (show(Zp i true (l.take k)).length+(⟨#[32]⟩++Zb x:ByteArray).size≤140737488355328 by rw[ByteArray.size_append];omega);have HE:=Qh (show Zp i true (l.take k)++(⟨#[32]⟩++Zb x:ByteArray).data.toList=Zp i true (l.take (k+1)) by rw[HS.out];simp);clear hx hxo ux bx hln
    go_wp2_with fail
    refine(HT.out).mono ?_;rintro e w5 ⟨rfl,hu5⟩;have HW:=Qh ((hst.out.no (UX.out.trans hu5)).write (⟨#[32]⟩++Zb x) HLN.out);rw[HE.out]at HW;clear hu5
    go_wp2_with fail
    refine(HW.out).mono ?_;rintro e w6 ⟨rfl,hb6⟩;have HB6:=Qh hb6;clear hb6;go_wp2
    go_roundg (gk-1)
    case measure=>omega
    case rel=>exact⟨k+1,by omega,by go_num,HB6⟩
   ·obtain rfl:k=l.length:=by omega
    have HST:=Qh (hst.out.str (by omega));rw[List.take_length]at HST
    go_wp2_with fail
    refine(HST.out).mono ?_;rintro e w7 ⟨rfl,hu7⟩;go_wp2
    go_ret
    exact⟨rfl,UB.out.trans hu7⟩
end
/- Scripts out of numbers:numbers' texts with blanks between. -/
section
open Go.RowKit
theorem Zco:SlT Tryz.prog 53 5 1 1:=SlT.mk_ Tryz.underlying53 (z:= .int .u8 0) (by kernel_rfl) rfl (by omega)
set_option maxHeartbeats 2000000 in
set_option maxRecDepth 100000 in
theorem Zd4 (w:World) (F:Nat→Prop) (b:Nat) (l:List UInt8) (h:Bld w F b l) (hlen:l.length≤1000000):
  Calls Tryz.prog 54 #[.pointer (some ⟨b,0,none⟩),.int .u8 32] w (ZcQ w F b (l++[32]) .nilIface):=by
 have hFb:F b:=by
  obtain⟨_,_,_,_,_,_,h,_⟩:=h;exact h
 have hlt:=h.lt;have hl2:(Lib.byteCells l).length=l.length:=Lib.byteCells_length l;have Hl2:=Qh hl2;clear hl2
 go_enter Tryz.func54,Tryz.ntmps54
 go_wp2_with fail
 refine(Zcj _ F b l h).mono ?_;rintro e w1 ⟨rfl,⟨v,hbk,hown,hne,hv⟩,hu⟩;have hsz:=hu.size;have c0:w1.cell? ⟨b,0,none⟩=some (.pointer (some ⟨b,0,none⟩)):=hbk.cell 0;have c1:w1.cell? ⟨b,1,none⟩=some v:=hbk.cell 1;have Hv:=Qh hv;have Hne:=Qh hne;have HB:=Qh hbk;have HU:=Qh hu;have d1:(w1.alloc (.cells #[.int .u8 32] 5)).cell? ⟨b,1,none⟩=some v:=(hbk.upd ((Upd.refl No w1).alloc _) id).cell 1;clear hv hne hbk hu
 go_wp2_with (at_builtin;refine ZS rfl rfl Zco (cells:=[.int .u8 32]) (by rfl) rfl hown rfl rfl (by omega) (by omega) (by omega) ?_)
 intro g cap w2 hown' hu2 hgrew hg2;have hb2:=HB.out.upd hu2 (fun e=>Hne.out e);have d0:w2.cell? ⟨b,0,none⟩=some (.pointer (some ⟨b,0,none⟩)):=hb2.cell 0;have d1:w2.cell? ⟨b,1,none⟩=some v:=hb2.cell 1;have f1:w2.frozen? ⟨b,1,none⟩=false:=hb2.free 1;have Hg:=Qh hgrew;clear hgrew;go_wp2
 go_ret
 have u3:=(Upd.refl (One b) w2).setOne 1 (.slice (some ⟨g,0,none⟩) (l.length+1) cap);have hln:(l++[32]).length=l.length+1:=by simp
 have hgb:g≠b:=fun e=>by
  rcases Hg.out with h|h
  ·exact Hne.out (h.trans (congrArg some e))
  ·omega
 have hne':Value.ownBlock (.slice (some ⟨g,0,none⟩) (l.length+1) cap)≠some b:=fun e=>by
  simp only[Value.ownBlock,Option.some.injEq]at e;exact hgb e
 have hown3:=Zh hown' u3 (fun i hi e=>hne' (by rw[hi,e]));refine⟨rfl,fun i=>F i∨w.heap.size≤i,⟨_,_,.inr rfl,hb2.set_ 1 _,?_,hne',.inl hFb,fun i hi=> ?_⟩,?_,fun i hi=>hi⟩
 ·rw[hln];have:Lib.byteCells (l++[32])=Lib.byteCells l++[.int .u8 32]:=by unfold Lib.byteCells;rw[List.map_append];rfl
  rw[this];exact hown3
 ·simp only[Value.ownBlock,Option.some.injEq]at hi;subst hi;rcases Hg.out with h|h
  ·exact .inl (Hv.out _ h)
  ·have:=HU.out.size;exact .inr (by omega)
 ·refine Upd.trans_ (Upd.trans_ (HU.out.mono fun i _ e=> ?_) hu2 fun i _ e=>Hv.out i e) (u3.mono fun i _ e=> ?_) fun i _ e=>e
  ·cases e;exact hFb
  ·cases e;exact hFb
theorem BSx.byte {wb W:World} {b:Nat} {l:List UInt8} (h:BSx wb b l W) (hl:l.length≤1000000):Calls Tryz.prog 54 #[.pointer (some ⟨b,0,none⟩),.int .u8 32] W fun e w'=>e= .returned .nilIface∧BSx wb b (l++[32]) w':=by
 obtain⟨G,h1,h2,h3⟩:=h;refine(Zd4 W G b l h1 hl).mono ?_;rintro e w2 ⟨rfl,G1,hB1,hu2,hG1⟩;refine⟨rfl,G1,hB1,fun j hj=> ?_,h3.then_ hu2 fun j hj=> .inr (h2 j hj)⟩;rcases hG1 j hj with e|e
 ·exact h2 j e
 ·have:=h3.size;omega
def Zl (l:List Int):Nat→List UInt8
 |0=>[]
 |k+1=>Zl l k++(if k=0 then [] else [32])++Zc (l.getD k 0)
theorem Z1 (l:List Int):∀k,(Zl l k).length≤22*k
 |0=>by simp[Zl]
 |k+1=>by
  have h1:=Z1 l k;have h2:=Zaj (l.getD k 0);rw[Zl,List.length_append,List.length_append];have h3:(if k=0 then [] else [(32:UInt8)]).length≤1:=by split<;>simp
  omega
def ZD (l:List Int):ByteArray:=⟨(Zl l l.length).toArray⟩
set_option maxHeartbeats 2000000 in
set_option maxRecDepth 100000 in
theorem Zdo (F:Nat→Prop) (w:World) (A:Option Addr) (c:Nat) (l:List Int) (h:Ints F w A l) (hl:l.length≤1000) (hi:∀n∈l,i64 n):
  Calls Tryz.prog 37 #[.slice A l.length c] w fun e w'=>e= .returned (.string (ZD l))∧Upd No w w':=by
 have HB0:=Qh (BSx.fresh w);have HH:=Qh (fun W (u:Upd No w W)=>h.upd u (fun _ _=>id));have HI:=Qh hi;clear h hi
 go_enter Tryz.func37,Tryz.ntmps37
 go_wp2
 go_loopg [8] l.length (fun gk s wr=>∃k:Nat,k+gk=l.length∧s= .int .i64 (k:Int)∧Hid (BSx w w.heap.size (Zl l k) wr))
 case atStart=>exact⟨0,by omega,rfl,HB0⟩
 case round=>
  obtain⟨k,hgk,rfl,hst⟩:=hrel
  by_cases hlt:k<l.length
  ·obtain⟨ad,hAd,q0⟩:=(HH.out _ hst.out.upd).at_ hlt;obtain⟨x,hx⟩:∃x,l[k]=x:=⟨_,rfl⟩;rw[hx]at q0;subst hAd;have hxi:i64 x:=HI.out x (hx▸List.getElem_mem hlt);have HX:=Qh (show l.getD k 0=x by rw[List.getD_eq_getElem?_getD,Qg hlt,hx];rfl);have b1:(0:Int)≤(k:Int):=Qn _;have b2:(k:Int)<(l.length:Int):=by omega
   have HL:=Qh (Z1 l k);have HN:=Qh (Ze x);have HE:=Qh (show Zl l (k+1)=Zl l k++(if k=0 then [] else [32])++Zc x by rw[Zl,HX.out]);clear hx;obtain hk0|hk0:k=0∨0<k:=by omega
   ·have HST:=Qh (show BSx w w.heap.size [] wr from by have:=hst.out;rw[hk0]at this;exact this);have hkd:decide (0<k)=false:=decide_eq_false (by omega);have HK0:=Qh (show Zl l (k+1)=[]++Zc x by rw[HE.out,hk0];rfl);clear HE hk0;have HE:=HK0
    go_wp2_with fail
    refine(Z9 _ x hxi.1 hxi.2).mono ?_;rintro e w5 ⟨rfl,hu5⟩;have HW:=Qh ((HST.out.no hu5).write (Za x) (by have:=HN.out;simp only[List.length_nil];omega));clear hu5
    go_wp2_with fail
    refine(HW.out).mono ?_;rintro e w6 ⟨rfl,hb6⟩;have HB6:=Qh (show BSx w w.heap.size (Zl l (k+1)) w6 from by rw[HE.out];exact hb6);clear hb6;go_wp2
    go_roundg (gk-1)
    case measure=>omega
    case rel=>exact⟨k+1,by omega,by go_num,HB6⟩
   ·have hkd:decide (0<k)=true:=decide_eq_true (by omega);have HK0:=Qh (show Zl l (k+1)=Zl l k++[32]++Zc x by rw[HE.out,if_neg (by omega)]);clear HE hk0;have HE:=HK0;have HY:=Qh (hst.out.byte (by have:=HL.out;omega))
    go_wp2_with fail
    refine(HY.out).mono ?_;rintro e w4 ⟨rfl,hb4⟩;have HB4:=Qh hb4;clear hb4
    go_wp2_with fail
    refine(Z9 _ x hxi.1 hxi.2).mono ?_;rintro e w5 ⟨rfl,hu5⟩;have HW:=Qh ((HB4.out.no hu5).write (Za x) (by have:=HN.out;have:=HL.out;simp only[List.length_append,List.length_cons,List.length_nil];omega));clear hu5
    go_wp2_with fail
    refine(HW.out).mono ?_;rintro e w6 ⟨rfl,hb6⟩;have HB6:=Qh (show BSx w w.heap.size (Zl l (k+1)) w6 from by rw[HE.out];exact hb6);clear hb6;go_wp2
    go_roundg (gk-1)
    case measure=>omega
    case rel=>exact⟨k+1,by omega,by go_num,HB6⟩
  ·obtain rfl:k=l.length:=by omega
   have HST:=Qh (hst.out.str (Nat.le_refl _))
   go_wp2_with fail
   refine(HST.out).mono ?_;rintro e w7 ⟨rfl,hu7⟩;go_wp2
   go_ret
   exact⟨rfl,hu7⟩
theorem ZbJ {l:List Int} {k:Nat} {x:Int} (h:l.getD k 0=x) (hk:k≠0) {sb:ByteArray} (e:sb=⟨(Zl l k).toArray⟩):sb++⟨#[32]⟩++Za x=⟨(Zl l (k+1)).toArray⟩:=by
 subst e;rw[Zl,if_neg hk,h];unfold Za
 apply ByteArray.ext
 simp
set_option maxHeartbeats 2000000 in
set_option maxRecDepth 100000 in
theorem Zdk (F:Nat→Prop) (w:World) (A:Option Addr) (c:Nat) (l:List Int) (h:Ints F w A l) (hl:l.length≤1000) (hi:∀n∈l,i64 n):
  Calls Tryz.prog 23 #[.slice A l.length c] w fun e w'=>e= .returned (.string (ZD l))∧Upd No w w':=by
 have HH:=Qh (fun W (u:Upd No w W)=>h.upd u (fun _ _=>id));have HI:=Qh hi;have m1:(⟨#[32]⟩:ByteArray).size=1:=rfl;clear h hi
 go_enter Tryz.func23,Tryz.ntmps23
 go_wp2
 go_loopg [3,8] l.length (fun gk s j wr=>∃(k:Nat) (sb:ByteArray),k+gk=l.length∧j= .int .i64 (k:Int)∧s= .string sb∧Hid (sb=⟨(Zl l k).toArray⟩)∧sb.size≤22*k∧Upd No w wr)
 case atStart=>exact⟨0,_,by omega,rfl,rfl,Qh rfl,by decide,Upd.refl _ _⟩
 case round=>
  obtain⟨k,sb,hgk,rfl,rfl,hs,hsz,hu⟩:=hrel
  by_cases hlt:k<l.length
  ·obtain⟨ad,hAd,q0⟩:=(HH.out _ hu).at_ hlt;obtain⟨x,hx⟩:∃x,l[k]=x:=⟨_,rfl⟩;rw[hx]at q0;subst hAd;have hxi:i64 x:=HI.out x (hx▸List.getElem_mem hlt);have HX:=Qh (show l.getD k 0=x by rw[List.getD_eq_getElem?_getD,Qg hlt,hx];rfl);have b1:(0:Int)≤(k:Int):=Qn _;have b2:(k:Int)<(l.length:Int):=by omega
   have hn:=Ze x;have HU:=Qh hu;clear hx hu;obtain hk0|hk0:k=0∨0<k:=by omega
   ·have hkd:decide (0<k)=false:=decide_eq_false (by omega);have HE:=Qh (show sb++Za x=⟨(Zl l (k+1)).toArray⟩ by rw[Zl,hs.out,hk0,if_pos rfl,←hk0,HX.out];unfold Za;apply ByteArray.ext;simp[hk0,Zl]);have p1:¬9223372036854775807<sb.size+(Za x).size:=by omega
    have hsz2:(sb++Za x).size≤22*(k+1):=by rw[ByteArray.size_append];omega
    have HZ:=Qh hsz2;clear hsz2 hk0 hs
    go_wp2_with fail
    refine(Z2 _ x hxi.1 hxi.2).mono ?_;rintro e w5 ⟨rfl,hu5⟩;have HU5:=Qh (HU.out.trans hu5);clear hu5;go_wp2
    go_roundg (gk-1)
    case measure=>omega
    case rel=>exact⟨k+1,_,by omega,by go_num,rfl,HE,HZ.out,HU5.out⟩
   ·have hkd:decide (0<k)=true:=decide_eq_true (by omega);have HE:=Qh (ZbJ HX.out (by omega) hs.out);have p1:¬9223372036854775807<sb.size+1:=by omega
    have p2:¬9223372036854775807<sb.size+1+(Za x).size:=by omega
    have hsz2:(sb++⟨#[32]⟩++Za x).size≤22*(k+1):=by rw[ByteArray.size_append,ByteArray.size_append];omega
    have HZ:=Qh hsz2;clear hsz2 hk0 hs
    go_wp2_with fail
    refine(Z2 _ x hxi.1 hxi.2).mono ?_;rintro e w5 ⟨rfl,hu5⟩;have HU5:=Qh (HU.out.trans hu5);clear hu5;go_wp2
    go_roundg (gk-1)
    case measure=>omega
    case rel=>exact⟨k+1,_,by omega,by go_num,rfl,HE,HZ.out,HU5.out⟩
  ·obtain rfl:k=l.length:=by omega
   go_wp2
   go_ret
   exact⟨by rw[hs.out];rfl,hu⟩
end
end Go.Proofs.YtbcpoloakepnkaaGreatDoor
