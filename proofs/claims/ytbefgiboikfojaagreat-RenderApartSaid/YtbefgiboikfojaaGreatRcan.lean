/- Edges held against one another: by the program and by the document. -/
import Derived.Sort.Grow
import Derived.Test.YtbefgiboikfojaaGreatRcaf
import Derived.Test.YtbefgiboikfojaaGreatRcai
namespace Go.Proofs.YtbefgiboikfojaaGreat
open Go.RowKit
set_option linter.unusedVariables false
set_option linter.unusedSimpArgs false
set_option maxRecDepth 100000
set_option maxHeartbeats 1000000
def ZD(a b:Int):Int:=if a<b then -1 else if b<a then 1 else 0
theorem ZcG(a:Int):ZD a a=0:=by unfold ZD;simp
theorem Zdo{a b:Int}(h:a≠b):ZD a b≠0∧decide (ZD a b<0)=decide (a<b):=by
 unfold ZD
 by_cases h1:a<b
 ·simp[h1]
 ·have:b<a:=by omega
  simp[h1,this]
def Zbd(a b:Edge):Int:=if a.f≠b.f then ZD a.f b.f else if a.k≠b.k then ZD a.k b.k else if a.key≠b.key then ZD a.key b.key else ZD a.t b.t
def ltE(a b:Edge):Bool:=if a.f≠b.f then decide (a.f<b.f) else if a.k≠b.k then decide (a.k<b.k) else if a.key≠b.key then decide (a.key<b.key) else decide (a.t<b.t)
theorem Zty(a b:Edge):decide (Zbd a b<0)=ltE a b:=by
 unfold Zbd ltE
 by_cases h1:a.f≠b.f
 ·rw[if_pos h1,if_pos h1,(Zdo h1).2]
 rw[if_neg h1,if_neg h1]
 by_cases h2:a.k≠b.k
 ·rw[if_pos h2,if_pos h2,(Zdo h2).2]
 rw[if_neg h2,if_neg h2]
 by_cases h3:a.key≠b.key
 ·rw[if_pos h3,if_pos h3,(Zdo h3).2]
 rw[if_neg h3,if_neg h3]
 by_cases h4:a.t=b.t
 ·rw[h4,ZcG];simp
 ·rw[(Zdo h4).2]
theorem Zho(w:Gy)(n:Int):CE 188 #[Qi n] w (.bool false):=by
 have hb:(n != n)=false:=by simp
 go_enter Tryz.func188,Tryz.ntmps188;go_wp2;go_ret;exact⟨rfl,rfl⟩
theorem Za2(w:Gy)(a b:Int):CE 153 #[Qi a,Qi b] w (Qi (ZD a b)):=by
 by_cases h1:a<b
 ·have H:=Qh (show ZD a b= -1 by unfold ZD;rw[if_pos h1]);go_enter Tryz.func153,Tryz.ntmps153;go_wp2_with fail;refine(Zho _ _).mono ?_;rintro e w' ⟨rfl,rfl⟩;go_wp2_with fail;refine(Zho _ _).mono ?_;rintro e w' ⟨rfl,rfl⟩;go_wp2;go_ret;exact⟨by rw[H.out];rfl,rfl⟩
 ·by_cases h2:b<a
  ·have H:=Qh (show ZD a b=1 by unfold ZD;rw[if_neg h1,if_pos h2]);go_enter Tryz.func153,Tryz.ntmps153;go_wp2_with fail;refine(Zho _ _).mono ?_;rintro e w' ⟨rfl,rfl⟩;go_wp2_with fail;refine(Zho _ _).mono ?_;rintro e w' ⟨rfl,rfl⟩;go_wp2;go_ret;exact⟨by rw[H.out];rfl,rfl⟩
  ·have H:=Qh (show ZD a b=0 by unfold ZD;rw[if_neg h1,if_neg h2]);go_enter Tryz.func153,Tryz.ntmps153;go_wp2_with fail;refine(Zho _ _).mono ?_;rintro e w' ⟨rfl,rfl⟩;go_wp2_with fail;refine(Zho _ _).mono ?_;rintro e w' ⟨rfl,rfl⟩;go_wp2;go_ret;exact⟨by rw[H.out];rfl,rfl⟩
def Grw(w w':Gy):Prop:=∃q os',w'=Sort.grow (w.drewN q) os'
theorem Grw.refl(w:Gy):Grw w w:=⟨0,#[],by unfold Sort.grow World.drewN;simp⟩
theorem Grw.alloc{w w':Gy}(h:Grw w w')(o:Obj):Grw w (w'.alloc o):=by
 obtain⟨q,os',rfl⟩:=h;exact⟨q,os'.push o,by unfold Sort.grow World.drewN World.alloc;simp⟩
theorem Grw.drewN{w w':Gy}(h:Grw w w')(n:Nat):Grw w (w'.drewN n):=by
 obtain⟨q,os',rfl⟩:=h;exact⟨q+n,os',by unfold Sort.grow World.drewN;simp[Nat.add_assoc]⟩
theorem Grw.upd{w w':Gy}(h:Grw w w'):Upd No w w':=by
 obtain⟨q,os',rfl⟩:=h;exact⟨rfl,rfl,rfl,by unfold Sort.grow World.drewN;simp,fun k hk _=>by unfold Sort.grow World.drewN;simp[Array.getElem?_append_left hk]⟩
theorem Zdv{P:Gw}{f:FuncId}{args:Gj}{w:Gy}{a n:Nat}{v:Gz}(h:Calls P f args (w.drewN (a+n)) fun e w'=>e= .returned v∧w.drewN (a+n)=w'):
  Calls P f args (w.drewN (a+n)) fun e w'=>e= .returned v∧∃m,w'=w.drewN (a+m):=h.mono fun _ _ h=>⟨h.1,n,h.2.symm⟩
theorem ZpC(w:Gy)(x y:Edge):Calls Tryz.prog 115 #[.agg x.cells.toArray,.agg y.cells.toArray] w fun e w'=>e= .returned (Qi (Zbd x y))∧Grw w w':=by
 unfold Edge.cells;have H1:Hid (x.f=y.f->ZD x.f y.f=0):=Qh (fun h=>by rw[h,ZcG])
 by_cases h1:x.f=y.f
 ·have b1:(ZD x.f y.f != 0)=false:=by rw[h1,ZcG];rfl
  by_cases h2:x.k=y.k
  ·have b2:(ZD x.k y.k != 0)=false:=by rw[h2,ZcG];rfl
   by_cases h3:x.key=y.key
   ·have b3:(ZD x.key y.key != 0)=false:=by rw[h3,ZcG];rfl
    have H:=Qh (show Zbd x y=ZD x.t y.t by unfold Zbd;rw[if_neg (by simpa using h1),if_neg (by simpa using h2),if_neg (by simpa using h3)]);clear h1 h2 h3
    by_cases h4:x.t=y.t
    ·have b4:(ZD x.t y.t != 0)=false:=by rw[h4,ZcG];rfl
     have H4:=Qh (show ZD x.t y.t=0 by rw[h4,ZcG]);clear h4;go_enter Tryz.func115,Tryz.ntmps115;go_wp2;refine wp_loop_rounds 5 ?_;rw[rounds_succ];go_wp2
     go_quiet ((go_at_call 153;exact Calls.quiet_of_same ((Za2 _ _ _).mono fun e w' h=>⟨h.1,h.2.symm⟩)))
     go_wp2;rw[rounds_succ];go_wp2
     go_quiet ((go_at_call 153;exact Zdv (Za2 _ _ _)))
     go_wp2;rw[rounds_succ];go_wp2
     go_quiet ((go_at_call 153;exact Zdv (Za2 _ _ _)))
     go_wp2;rw[rounds_succ];go_wp2
     go_quiet ((go_at_call 153;exact Zdv (Za2 _ _ _)))
     go_wp2;rw[rounds_succ];go_wp2;go_ret;exact⟨by rw[H.out,H4.out];rfl,(((((Grw.refl _).alloc _).alloc _).alloc _).alloc _).drewN _⟩
    ·have b4:(ZD x.t y.t != 0)=true:=by rw[bne_iff_ne];exact(Zdo h4).1
     clear h4;go_enter Tryz.func115,Tryz.ntmps115;go_wp2;refine wp_loop_rounds 4 ?_;rw[rounds_succ];go_wp2
     go_quiet ((go_at_call 153;exact Calls.quiet_of_same ((Za2 _ _ _).mono fun e w' h=>⟨h.1,h.2.symm⟩)))
     go_wp2;rw[rounds_succ];go_wp2
     go_quiet ((go_at_call 153;exact Zdv (Za2 _ _ _)))
     go_wp2;rw[rounds_succ];go_wp2
     go_quiet ((go_at_call 153;exact Zdv (Za2 _ _ _)))
     go_wp2;rw[rounds_succ];go_wp2
     go_quiet ((go_at_call 153;exact Zdv (Za2 _ _ _)))
     go_wp2;go_ret;exact⟨by rw[H.out];rfl,(((((Grw.refl _).alloc _).alloc _).alloc _).alloc _).drewN _⟩
   ·have b3:(ZD x.key y.key != 0)=true:=by rw[bne_iff_ne];exact(Zdo h3).1
    have H:=Qh (show Zbd x y=ZD x.key y.key by unfold Zbd;rw[if_neg (by simpa using h1),if_neg (by simpa using h2),if_pos h3]);clear h1 h2 h3;go_enter Tryz.func115,Tryz.ntmps115;go_wp2;refine wp_loop_rounds 3 ?_;rw[rounds_succ];go_wp2
    go_quiet ((go_at_call 153;exact Calls.quiet_of_same ((Za2 _ _ _).mono fun e w' h=>⟨h.1,h.2.symm⟩)))
    go_wp2;rw[rounds_succ];go_wp2
    go_quiet ((go_at_call 153;exact Zdv (Za2 _ _ _)))
    go_wp2;rw[rounds_succ];go_wp2
    go_quiet ((go_at_call 153;exact Zdv (Za2 _ _ _)))
    go_wp2;go_ret;exact⟨by rw[H.out];rfl,(((((Grw.refl _).alloc _).alloc _).alloc _).alloc _).drewN _⟩
  ·have b2:(ZD x.k y.k != 0)=true:=by rw[bne_iff_ne];exact(Zdo h2).1
   have H:=Qh (show Zbd x y=ZD x.k y.k by unfold Zbd;rw[if_neg (by simpa using h1),if_pos h2]);clear h1 h2;go_enter Tryz.func115,Tryz.ntmps115;go_wp2;refine wp_loop_rounds 2 ?_;rw[rounds_succ];go_wp2
   go_quiet ((go_at_call 153;exact Calls.quiet_of_same ((Za2 _ _ _).mono fun e w' h=>⟨h.1,h.2.symm⟩)))
   go_wp2;rw[rounds_succ];go_wp2
   go_quiet ((go_at_call 153;exact Zdv (Za2 _ _ _)))
   go_wp2;go_ret;exact⟨by rw[H.out];rfl,(((((Grw.refl _).alloc _).alloc _).alloc _).alloc _).drewN _⟩
 ·have b1:(ZD x.f y.f != 0)=true:=by rw[bne_iff_ne];exact(Zdo h1).1
  have H:=Qh (show Zbd x y=ZD x.f y.f by unfold Zbd;rw[if_pos h1]);clear h1;go_enter Tryz.func115,Tryz.ntmps115;go_wp2;refine wp_loop_rounds 1 ?_;rw[rounds_succ];go_wp2
  go_quiet ((go_at_call 153;exact Calls.quiet_of_same ((Za2 _ _ _).mono fun e w' h=>⟨h.1,h.2.symm⟩)))
  go_wp2;go_ret;exact⟨by rw[H.out];rfl,(((((Grw.refl _).alloc _).alloc _).alloc _).alloc _).drewN _⟩
/- A walk's text:the document's. -/
def Edge.ok(e:Edge):Prop:=(-9223372036854775808<=e.f∧e.f<=9223372036854775807)∧(-9223372036854775808<=e.t∧e.t<=9223372036854775807)∧(-9223372036854775808<=e.key∧e.key<=9223372036854775807)
def Zb9(e:Edge):Gk:=[32]++ZcH e.k++Z5 e.key++[32]++Z5 e.t
def ZP(l:List Edge):Nat->List UInt8
 |0=>[]
 |k+1=>match l[k]? with
  |none=>ZP l k
  |some e=>(if k=0 then Z5 e.f else ZP l k)++Zb9 e
def Zf(n:Int):Gm:=⟨(Z5 n).toArray⟩
def ZbL(n:Int):Gm:=⟨(ZcH n).toArray⟩
theorem Zu(n:Int):(Zf n).size<=21:=by
 have:=ZdK n
 simpa[Zf,ByteArray.size]using this
theorem ZfE(n:Int):(ZbL n).size<=2:=by
 unfold ZbL ZcH
 split
 ·decide
 ·split
  ·decide
  ·split<;>decide
theorem ZbP(w:Gy)(n:Int)(h1: -9223372036854775808<=n)(h2:n<=9223372036854775807):
  CN 36 #[Qi n] w (.string (Zf n)):=Zwf w n h1 h2
theorem Zpx(w:Gy)(n:Int):
  CN 48 #[Qi n] w (.string (ZbL n)):=Zvl w n
theorem Zj4(l:List Edge)(k:Nat):(ZP l k).length<=100*k:=by
 have hw:∀n,(ZcH n).length<=2:=fun n=>by
  have:=ZfE n
  simpa[ZbL,ByteArray.size]using this
 induction k with
 |zero=>simp[ZP]
 |succ k ih=>
  unfold ZP
  split
  ·omega
  ·rename_i e _
   have h1:=ZdK e.f;have h2:=ZdK e.key;have h3:=ZdK e.t;have h4:=hw e.k;unfold Zb9
   split<;>simp<;>omega
/- An operation's text:the program's,and the document's. -/
def Zaq(o:HOp):Gm:=
 if opB o=false then ⟨#[]⟩ else if o.read=false then ⟨#[119]⟩++Zf o.key else if o.tx=0 then ⟨#[114]⟩++Zf o.key++⟨#[64,48]⟩
 else ⟨#[114]⟩++Zf o.key++⟨#[64]⟩++Zf o.tx++⟨#[46]⟩++Zf o.nth
theorem Zui(w:Gy)(k t n:Int)(hk:i64 k∧i64 t∧i64 n):CN 47 #[.agg #[.bool false,Qi k,Qi t,Qi n]] w (.string (Zaq ⟨false,k,t,n⟩)):=by
 have HR:=Qh (fun W=>ZiO W ⟨false,k,t,n⟩);unfold HOp.cells at HR;obtain⟨z,hz⟩:=Qe w.heap.size;obtain⟨wb,ah⟩:=Qe (w.alloc (.cells #[.bool false,Qi k,Qi t,Qi n] 50));have ub:Upd No w wb:=by rw[<-ah];exact(Gg No w).alloc _
 have bb:Blk wb z 50 [.bool false,Qi k,Qi t,Qi n]:=by rw[<-ah,<-hz];exact Gh w _ _
 have t0:=bb.ev 0 rfl
 have t1:=bb.ev 1 rfl
 have t2:=bb.ev 2 rfl
 have t3:=bb.ev 3 rfl
 have hbz:Upd No wb wb:=Gg _ _;have UB:=Qh ub;have HK:=Qh hk;have n1:=Zu k;have n2:=Zu t;have n3:=Zu n;have m1:(⟨#[119]⟩:Gm).size=1:=rfl;have m2:(⟨#[114]⟩:Gm).size=1:=rfl;have m3:(⟨#[64]⟩:Gm).size=1:=rfl;have m4:(⟨#[46]⟩:Gm).size=1:=rfl;have m5:(⟨#[64,48]⟩:Gm).size=2:=rfl;have p1:¬9223372036854775807<1+(Zf k).size:=by omega
 have p2:¬9223372036854775807<1+(Zf k).size+2:=by omega
 have p3:¬9223372036854775807<1+(Zf k).size+1:=by omega
 have p4:¬9223372036854775807<1+(Zf k).size+1+(Zf t).size:=by omega
 have p5:¬9223372036854775807<1+(Zf k).size+1+(Zf t).size+1:=by omega
 have p6:¬9223372036854775807<1+(Zf k).size+1+(Zf t).size+1+(Zf n).size:=by omega
 clear bb ub hk;obtain⟨bo,bK⟩:∃b,opB ⟨false,k,t,n⟩=b:=⟨_,rfl⟩;rw[bK]at HR
 cases bo
 ·have HT:=Qh (show Zaq ⟨false,k,t,n⟩=⟨#[]⟩ by unfold Zaq;rw[if_pos bK]);have aP:Hid (CN 81 #[.agg #[.bool false,Qi k,Qi t,Qi n]] wb (Qi 1)):=Qh (HR.out wb);clear HR bK;go_enter Tryz.func47,Tryz.ntmps47;go_wp2_with fail;refine Ck aP.out fun w1 hu1=>?_;go_wp2;go_ret;exact⟨by rw[HT.out];rfl,UB.out.trans hu1⟩
 ·have HT:=Qh (show Zaq ⟨false,k,t,n⟩=⟨#[119]⟩++Zf k by unfold Zaq;rw[if_neg (by rw[bK];decide),if_pos rfl]);have aP:Hid (CN 81 #[.agg #[.bool false,Qi k,Qi t,Qi n]] wb (Qi 0)):=Qh (HR.out wb);clear HR bK;go_enter Tryz.func47,Tryz.ntmps47;go_wp2_with fail;refine Ck aP.out fun w1 hu1=>?_;go_wp2_with fail;refine Ck (ZbP _ k HK.out.1.1 HK.out.1.2) fun w2 hu2=>?_;go_wp2;go_ret;exact⟨by rw[HT.out];rfl,UB.out.trans (hu1.trans hu2)⟩
theorem Zuk(w:Gy)(k t n:Int)(hk:i64 k∧i64 t∧i64 n):CN 47 #[.agg #[.bool true,Qi k,Qi t,Qi n]] w (.string (Zaq ⟨true,k,t,n⟩)):=by
 have HR:=Qh (fun W=>ZiO W ⟨true,k,t,n⟩);unfold HOp.cells at HR;obtain⟨z,hz⟩:=Qe w.heap.size;obtain⟨wb,ah⟩:=Qe (w.alloc (.cells #[.bool true,Qi k,Qi t,Qi n] 50));have ub:Upd No w wb:=by rw[<-ah];exact(Gg No w).alloc _
 have bb:Blk wb z 50 [.bool true,Qi k,Qi t,Qi n]:=by rw[<-ah,<-hz];exact Gh w _ _
 have t0:=bb.ev 0 rfl
 have t1:=bb.ev 1 rfl
 have t2:=bb.ev 2 rfl
 have t3:=bb.ev 3 rfl
 have hbz:Upd No wb wb:=Gg _ _;have UB:=Qh ub;have HK:=Qh hk;have n1:=Zu k;have n2:=Zu t;have n3:=Zu n;have m1:(⟨#[119]⟩:Gm).size=1:=rfl;have m2:(⟨#[114]⟩:Gm).size=1:=rfl;have m3:(⟨#[64]⟩:Gm).size=1:=rfl;have m4:(⟨#[46]⟩:Gm).size=1:=rfl;have m5:(⟨#[64,48]⟩:Gm).size=2:=rfl;have p1:¬9223372036854775807<1+(Zf k).size:=by omega
 have p2:¬9223372036854775807<1+(Zf k).size+2:=by omega
 have p3:¬9223372036854775807<1+(Zf k).size+1:=by omega
 have p4:¬9223372036854775807<1+(Zf k).size+1+(Zf t).size:=by omega
 have p5:¬9223372036854775807<1+(Zf k).size+1+(Zf t).size+1:=by omega
 have p6:¬9223372036854775807<1+(Zf k).size+1+(Zf t).size+1+(Zf n).size:=by omega
 clear bb ub hk;obtain⟨bo,bK⟩:∃b,opB ⟨true,k,t,n⟩=b:=⟨_,rfl⟩;rw[bK]at HR
 cases bo
 ·have HT:=Qh (show Zaq ⟨true,k,t,n⟩=⟨#[]⟩ by unfold Zaq;rw[if_pos bK]);have aP:Hid (CN 81 #[.agg #[.bool true,Qi k,Qi t,Qi n]] wb (Qi 1)):=Qh (HR.out wb);clear HR bK;go_enter Tryz.func47,Tryz.ntmps47;go_wp2_with fail;refine Ck aP.out fun w1 hu1=>?_;go_wp2;go_ret;exact⟨by rw[HT.out];rfl,UB.out.trans hu1⟩
 ·have aP:Hid (CN 81 #[.agg #[.bool true,Qi k,Qi t,Qi n]] wb (Qi 0)):=Qh (HR.out wb);clear HR
  by_cases h0:t=0
  ·have HT:=Qh (show Zaq ⟨true,k,t,n⟩=⟨#[114]⟩++Zf k++⟨#[64,48]⟩ by unfold Zaq;rw[if_neg (by rw[bK];decide),if_neg (by simp),if_pos h0]);have ju:(t==0)=true:=by rw[h0];rfl
   clear bK h0;go_enter Tryz.func47,Tryz.ntmps47;go_wp2_with fail;refine Ck aP.out fun w1 hu1=>?_;go_wp2_with fail;refine Ck (ZbP _ k HK.out.1.1 HK.out.1.2) fun w2 hu2=>?_;go_wp2;go_ret;exact⟨by rw[HT.out];rfl,UB.out.trans (hu1.trans hu2)⟩
  ·have HT:=Qh (show Zaq ⟨true,k,t,n⟩=⟨#[114]⟩++Zf k++⟨#[64]⟩++Zf t++⟨#[46]⟩++Zf n by unfold Zaq;rw[if_neg (by rw[bK];decide),if_neg (by simp),if_neg h0]);have ju:(t==0)=false:=by simpa using h0
   clear bK h0;go_enter Tryz.func47,Tryz.ntmps47;go_wp2_with fail;refine Ck aP.out fun w1 hu1=>?_;have s1:∀W,Upd No w1 W->W.cell? ⟨z,1,none⟩=some (Qi k):=fun W u=>t1 W (hu1.trans u)
   have s2:∀W,Upd No w1 W->W.cell? ⟨z,2,none⟩=some (Qi t):=fun W u=>t2 W (hu1.trans u)
   have s3:∀W,Upd No w1 W->W.cell? ⟨z,3,none⟩=some (Qi n):=fun W u=>t3 W (hu1.trans u)
   go_wp2;refine wpS (fun w'=>Upd No w1 w') ?_ fun jH=>?_
   ·(first|exact(Gg No _).drew|exact jH.trans hu3)
   (iterate 2 refine wpF ?_);refine wpK 5 rfl ?_;refine wpK 6 rfl ?_;refine wpK 10 rfl ?_;refine wpK 11 rfl ?_;refine wpZ 2 rfl fun K hK=>?_;go_simp
   (first
  |(go_at_call 36;refine Ck (ZbP _ k HK.out.1.1 HK.out.1.2) fun w3 hu3=>?_))
   try (go_wp2_with fail)
   refine hK.out _ _ ?_ fun jH=>?_
   ·(first|exact(Gg No _).drew|exact jH.trans hu3)
   try simp only[Qa]
   (iterate 2 refine wpF ?_);refine wpZ 7 rfl fun K hK=>?_;go_simp
   (first
  |(go_at_call 36;refine Ck (ZbP _ t HK.out.2.1.1 HK.out.2.1.2) fun w3 hu3=>?_))
   try (go_wp2_with fail)
   refine hK.out _ _ ?_ fun jH=>?_
   ·(first|exact(Gg No _).drew|exact jH.trans hu3)
   try simp only[Qa]
   (iterate 2 refine wpF ?_);refine wpZ 12 rfl fun K hK=>?_;go_simp
   (first
  |(go_at_call 36;refine Ck (ZbP _ n HK.out.2.2.1 HK.out.2.2.2) fun w3 hu3=>?_))
   try (go_wp2_with fail)
   refine hK.out _ _ ?_ fun jH=>?_
   ·(first|exact(Gg No _).drew|exact jH.trans hu3)
   try simp only[Qa]
   (iterate 2 refine wpF ?_);refine wpD (Gd ?_);go_wp2;go_ret;exact⟨by rw[HT.out];rfl,UB.out.trans (hu1.trans jH)⟩
theorem ZlJ(w:Gy)(o:HOp)(hk:o.ok):CN 47 #[.agg o.cells.toArray] w (.string (Zaq o)):=by
 obtain⟨rd,k,t,n⟩:=o
 cases rd
 ·exact Zui w k t n hk
 ·exact Zuk w k t n hk
/- A transaction's text:the document's. -/
theorem ZeZ(o:HOp):(Zaq o).size<=70:=by
 have n1:=Zu o.key;have n2:=Zu o.tx;have n3:=Zu o.nth;have m1:(⟨#[119]⟩:Gm).size=1:=rfl;have m2:(⟨#[114]⟩:Gm).size=1:=rfl;have m3:(⟨#[64]⟩:Gm).size=1:=rfl;have m4:(⟨#[46]⟩:Gm).size=1:=rfl;have m5:(⟨#[64,48]⟩:Gm).size=2:=rfl;have m0:(⟨#[]⟩:Gm).size=0:=rfl;unfold Zaq
 split
 ·omega
 ·split
  ·rw[Ex];omega
  ·split
   ·rw[Ex,Ex];omega
   ·rw[Ex,Ex,Ex,Ex,Ex];omega
def Za8(i:Int)(d:Bool)(l:Gu):Gk:=Z5 i++[32,if d then 99 else 97]++l.flatMap fun o=>32::(Zaq o).data.toList
theorem Zj2(i:Int)(d:Bool){l:Gu}{k:Nat}{x:HOp}(hk:k<l.length)(hx:l[k]=x):Za8 i d (l.take (k+1))=Za8 i d (l.take k)++32::(Zaq x).data.toList:=by
 subst hx;unfold Za8;rw[Es hk,List.flatMap_append];simp
/- Digraphs:ends held against one another. -/
structure DEnd where
 kind:Int
 label:Int
 node:Int
deriving DecidableEq
def DEnd.cells(e:DEnd):Gl:=[Qi e.kind,Qi e.label,Qi e.node]
def orI:Gv->Int
 |[]=>0
 |x::l=>if x=0 then orI l else x
theorem Zh3(x:Int)(l:Gv):orI (x::l)=if x=0 then orI l else x:=rfl
theorem ZvR(F:Gt)(w:Gy)(A:OA)(c:Nat)(l:Gv)(h:Ints F w A l)(hl:l.length<=1000000):
  CN 201 #[.slice A l.length c] w (Qi (orI l)):=by
 go_enter Tryz.func201,Tryz.ntmps201;go_wp2
 go_loopg [8] l.length (fun gk i wr=>∃k:Nat,k+gk=l.length∧i= Qi k∧Hid (orI (l.drop k)=orI l)∧Upd No w wr)
 case atStart=>exact⟨0,by omega,rfl,Qh rfl,Gg _ _⟩
 case round=>
  obtain⟨k,aK,rfl,hs,hu⟩:=hrel
  by_cases hlt:k<l.length
  ·obtain⟨ad,hA,_,_,hc⟩:=(h.upd hu Qo).at_ hlt;obtain⟨y,hy⟩:=Qe (l[k]);rw[hy]at hc;subst hA;have X:=Qh (show l.drop k=y::l.drop (k+1) by rw[<-hy];exact Ev hlt);clear hy;have b1:(0:Int)<=(k:Int):=Qn _;have b2:(k:Int)<(l.length:Int):=by omega
   have ag:=hs.out;rw[X.out,Zh3]at ag
   by_cases he:y=0
   ·have dO:(y != 0)=false:=by rw[he];rfl
    rw[if_pos he]at ag;have HS:=Qh ag;clear ag he;go_wp2;go_roundg (gk-1);exact⟨k+1,by omega,by go_num,HS,hu⟩;omega
   ·have dO:(y != 0)=true:=by rw[bne_iff_ne];exact he
    rw[if_neg he]at ag;have HS:=Qh ag;clear ag he;go_wp2;go_ret;exact⟨by rw[<-HS.out];rfl,hu⟩
  ·obtain rfl:k=l.length:=by omega
   have HS:=Qh (show(0:Int)=orI l by rw[<-hs.out,Fq];rfl);go_wp2;go_ret;exact⟨by rw[<-HS.out];rfl,hu⟩
def ZaU(a b:DEnd):Int:=orI [ZD a.kind b.kind,ZD a.label b.label,ZD a.node b.node]
theorem ZrV(w:Gy)(a b:DEnd):CN 167 #[.agg a.cells.toArray,.agg b.cells.toArray] w (Qi (ZaU a b)):=by
 obtain⟨ak,al,an⟩:=a;obtain⟨bk,bl,bn⟩:=b;unfold DEnd.cells;have b1:=(Gh w 203 [Qi ak,Qi al,Qi an]).alloc (.cells #[Qi bk,Qi bl,Qi bn] 203);have b2:=Gh (w.alloc (.cells #[Qi ak,Qi al,Qi an] 203)) 203 [Qi bk,Qi bl,Qi bn];simp only[Ge]at b2;have uA:=((Gg No w).alloc (.cells #[Qi ak,Qi al,Qi an] 203)).alloc (.cells #[Qi bk,Qi bl,Qi bn] 203);obtain⟨wb,ah⟩:=Qe ((w.alloc (.cells #[Qi ak,Qi al,Qi an] 203)).alloc (.cells #[Qi bk,Qi bl,Qi bn] 203));rw[ah]at b1 b2 uA;have a0:∀W,Upd No wb W->W.cell? ⟨w.heap.size,0,none⟩=some (Qi ak):=fun W hW=>(b1.upd hW id).cell 0
 have a1:∀W,Upd No wb W->W.cell? ⟨w.heap.size,1,none⟩=some (Qi al):=fun W hW=>(b1.upd hW id).cell 1
 have a2:∀W,Upd No wb W->W.cell? ⟨w.heap.size,2,none⟩=some (Qi an):=fun W hW=>(b1.upd hW id).cell 2
 have c0:∀W,Upd No wb W->W.cell? ⟨w.heap.size+1,0,none⟩=some (Qi bk):=fun W hW=>(b2.upd hW id).cell 0
 have c1:∀W,Upd No wb W->W.cell? ⟨w.heap.size+1,1,none⟩=some (Qi bl):=fun W hW=>(b2.upd hW id).cell 1
 have c2:∀W,Upd No wb W->W.cell? ⟨w.heap.size+1,2,none⟩=some (Qi bn):=fun W hW=>(b2.upd hW id).cell 2
 have vr:=Qh ah;have UA:=Qh uA;have lP:=ZvR (fun i=>i=wb.heap.size) ((wb.alloc (.cells #[Qi (ZD ak bk),Qi (ZD al bl),Qi (ZD an bn)] 3)).drew) (some ⟨wb.heap.size,0,none⟩) 3 [ZD ak bk,ZD al bl,ZD an bn] (Ints.drew (Zl4 (W:=wb) [ZD ak bk,ZD al bl,ZD an bn] 3)) (by simp);have AH:=Qh lP;have HV:Hid (ZaU ⟨ak,al,an⟩ ⟨bk,bl,bn⟩=orI [ZD ak bk,ZD al bl,ZD an bn]):=Qh rfl;clear ah uA b1 b2 lP;go_enter Tryz.func167,Tryz.ntmps167;go_wp2;rw[vr.out];refine wpS (fun w'=>Upd No wb w') ?_ fun jH=>?_
 ·(first|exact(Gg No _).drew|exact jH.trans hu3|exact jH.alloc _)
 (iterate 4 refine wpF ?_);refine wpK 5 rfl ?_;refine wpK 6 rfl ?_;refine wpK 7 rfl ?_;refine wpK 8 rfl ?_;refine wpK 10 rfl ?_;refine wpK 11 rfl ?_;refine wpK 12 rfl ?_;refine wpK 13 rfl ?_;refine wpZ 4 rfl fun K hK=>?_;go_simp
 (first
  |(go_at_call 153;refine(Za2 _ _ _).mono ?_;rintro e w3 ⟨rfl,rfl⟩;have hu3:=jH))
 try (go_wp2_with fail)
 refine hK.out _ _ ?_ fun jH=>?_
 ·(first|exact(Gg No _).drew|exact jH.trans hu3|exact jH.alloc _)
 try simp only[Qa]
 refine wpZ 9 rfl fun K hK=>?_;go_simp
 (first
  |(go_at_call 153;refine(Za2 _ _ _).mono ?_;rintro e w3 ⟨rfl,rfl⟩;have hu3:=jH))
 try (go_wp2_with fail)
 refine hK.out _ _ ?_ fun jH=>?_
 ·(first|exact(Gg No _).drew|exact jH.trans hu3|exact jH.alloc _)
 try simp only[Qa]
 refine wpZ 14 rfl fun K hK=>?_;go_simp
 (first
  |(go_at_call 153;refine(Za2 _ _ _).mono ?_;rintro e w3 ⟨rfl,rfl⟩;have hu3:=jH))
 try (go_wp2_with fail)
 refine hK.out _ _ ?_ fun jH=>?_
 ·(first|exact(Gg No _).drew|exact jH.trans hu3|exact jH.alloc _)
 try simp only[Qa]
 refine wpZ 15 rfl fun K hK=>?_;go_simp;refine hK.out _ _ ?_ fun jH=>?_
 ·(first|exact(Gg No _).drew|exact jH.trans hu3|exact jH.alloc _)
 try simp only[Qa]
 refine wpZ 16 rfl fun K hK=>?_;go_simp
 (first
  |(go_at_call 201;refine Ck AH.out fun w3 hu3=>?_))
 try (go_wp2_with fail)
 refine hK.out _ _ ?_ fun jH=>?_
 ·(first|exact(Gg No _).drew|exact jH.trans hu3|exact jH.alloc _)
 try simp only[Qa]
 refine wpK 17 rfl ?_;refine wpD (Gd ?_);have HU:=Qh (UA.out.trans jH);clear jH;go_wp2;go_ret;exact⟨by rw[HV.out];rfl,HU.out⟩
/- Digraphs:where an end stands among others. -/
def DEnds(F:Gt)(w:Gy)(A:OA)(l:List DEnd):Prop:=Recs F w A 3 (l.map DEnd.cells)
theorem DEnds.at_{F:Gt}{w:Gy}{A:OA}{l:List DEnd}(h:DEnds F w A l){k:Nat}(hk:k<l.length):∃ad,A=some ad∧
  w.cell? (ad.add (k*3))=some (Qi l[k].kind)∧w.cell? ⟨(ad.add (k*3)).block,(ad.add (k*3)).off+1,none⟩=some (Qi l[k].label)∧
  w.cell? ⟨(ad.add (k*3)).block,(ad.add (k*3)).off+2,none⟩=some (Qi l[k].node):=by
 have dq:k<(l.map DEnd.cells).length:=by simpa using hk
 obtain⟨ad,e,_,_,hc⟩:=Recs.at_ h dq;rw[Fk]at hc;exact⟨ad,e,by simpa using hc 0 _ rfl,by simpa using hc 1 _ rfl,by simpa using hc 2 _ rfl⟩
theorem DEnds.upd{F S:Gt}{w w':Gy}{A:OA}{l:List DEnd}(h:DEnds F w A l)(k:Upd S w w')(hn:∀i,F i->¬S i):DEnds F w' A l:=Recs.upd h k hn
def Zld(l:List DEnd)(e:DEnd)(p:Nat):Prop:=p<=l.length∧∀k (hk:k<l.length),(ZaU l[k] e<0↔k<p)
def Zf3(l:List DEnd)(e:DEnd)(p:Nat):Bool:=match l[p]? with|some x=>ZaU x e==0|none=>false
theorem Zsz(F:Gt)(w:Gy)(A:OA)(c:Nat)(l:List DEnd)(e:DEnd)(p:Nat)(h:DEnds F w A l)(hl:l.length<=1000000)(hp:Zld l e p):
  Calls Tryz.prog 166 #[.slice A l.length c,.agg e.cells.toArray,.func (.func 167) #[] #[]] w fun r w'=>r= .returned (.tuple #[Qi (p:Int),.bool (Zf3 l e p)])∧Upd No w w':=by
 obtain⟨ek,el,en⟩:=e;unfold DEnd.cells;have bE:=Qh (Gh w 203 [Qi ek,Qi el,Qi en]);have u0:=(Gg No w).alloc (.cells #[Qi ek,Qi el,Qi en] 203);have U0:=Qh u0;have hc:∀W (x:DEnd),Calls Tryz.prog 167 #[.agg #[Qi x.kind,Qi x.label,Qi x.node],.agg #[Qi ek,Qi el,Qi en]] W fun r w'=>r= .returned (Qi (ZaU x ⟨ek,el,en⟩))∧Upd No W w':=fun W x=>ZrV W x ⟨ek,el,en⟩
 have HC:=Qh hc;have HP:=Qh hp.2;have cV:=hp.1;clear u0 hc hp;go_enter Tryz.func166,Tryz.ntmps166;go_wp2
 go_loopg [9,10] l.length (fun gk s9 s10 wr=>∃i j:Nat,i+gk=j∧s9= Qi i∧s10= Qi j∧i<=p∧p<=j∧j<=l.length∧Upd No (w.alloc (.cells #[Qi ek,Qi el,Qi en] 203)) wr)
 case atStart=>exact⟨0,l.length,by omega,rfl,rfl,by omega,by omega,by omega,Gg _ _⟩
 case round=>
  obtain⟨i,j,aK,rfl,rfl,hi,hj,hjn,hu⟩:=hrel;have e0:∀W,Upd No wr W->W.cell? ⟨w.heap.size,0,none⟩=some (Qi ek):=fun W hW=>(bE.out.upd (hu.trans hW) id).cell 0
  have e1:∀W,Upd No wr W->W.cell? ⟨w.heap.size,1,none⟩=some (Qi el):=fun W hW=>(bE.out.upd (hu.trans hW) id).cell 1
  have e2:∀W,Upd No wr W->W.cell? ⟨w.heap.size,2,none⟩=some (Qi en):=fun W hW=>(bE.out.upd (hu.trans hW) id).cell 2
  have hr:Upd No wr wr:=Gg _ _
  by_cases hlt:i<j
  ·have b1:(i:Int)<(j:Int):=by omega
   have b2:(0:Int)<=(i:Int):=Qn _;have b3:(j:Int)<=1000000:=by omega
   obtain⟨m,hm⟩:=Qe ((i+j)/2:Nat);have pr:((i:Int)+(j:Int))/2=(m:Int):=by omega
   have fY:i<=m:=by omega
   have cX:m<j:=by omega
   have gX:m<l.length:=by omega
   have b4:(0:Int)<=(m:Int):=Qn _;have b5:(m:Int)<(l.length:Int):=by omega
   obtain⟨ad,hA,_⟩:=(h.upd (U0.out.trans hu) Qo).at_ gX;have hq:=fun W (hW:Upd No wr W)=>(h.upd (U0.out.trans (hu.trans hW)) Qo).at_ gX
   obtain⟨x,hx⟩:=Qe (l[m]);rw[hx]at hq
   have q0:∀W,Upd No wr W->W.cell? (ad.add (m*3))=some (Qi x.kind):=fun W hW=>by
    obtain⟨ad',e,c0,_⟩:=hq W hW;rw[hA]at e
    cases e
    exact c0
   have q1:∀W,Upd No wr W->W.cell? ⟨(ad.add (m*3)).block,(ad.add (m*3)).off+1,none⟩=some (Qi x.label):=fun W hW=>by
    obtain⟨ad',e,_,c1,_⟩:=hq W hW;rw[hA]at e
    cases e
    exact c1
   have q2:∀W,Upd No wr W->W.cell? ⟨(ad.add (m*3)).block,(ad.add (m*3)).off+2,none⟩=some (Qi x.node):=fun W hW=>by
    obtain⟨ad',e,_,_,c2⟩:=hq W hW;rw[hA]at e
    cases e
    exact c2
   have qI:=HP.out m gX;rw[hx]at qI;subst hA;clear hq hx hm
   by_cases hlt2:ZaU x ⟨ek,el,en⟩<0
   ·have Cq:=qI.1 hlt2;have hd:decide (ZaU x ⟨ek,el,en⟩<0)=true:=Qt hlt2;clear qI hlt2;go_wp2;refine wpS (fun w'=>Upd No wr w') ?_ fun jH=>?_
    ·(first|exact(Gg No _).drew|exact jH.trans hu3)
    (iterate 6 refine wpF ?_);refine wpZ 6 rfl fun K hK=>?_;go_simp
    (first
  |(go_at_call 167;refine Ck (HC.out _ x) fun w3 hu3=>?_))
    try (go_wp2_with fail)
    refine hK.out _ _ ?_ fun jH=>?_
    ·(first|exact(Gg No _).drew|exact jH.trans hu3)
    try simp only[Qa]
    refine wpK 7 rfl ?_;refine wpD (Gd ?_);have HU:=Qh (hu.trans jH);clear jH q0 q1 q2 e0 e1 e2;go_wp2;go_roundg (j-(m+1))
    case measure=>omega
    case rel=>exact⟨m+1,j,by omega,by go_num,rfl,by omega,by omega,by omega,HU.out⟩
   ·have Cq:¬m<p:=fun e=>hlt2 (qI.2 e)
    have hd:decide (ZaU x ⟨ek,el,en⟩<0)=false:=Qf hlt2;clear qI hlt2;go_wp2;refine wpS (fun w'=>Upd No wr w') ?_ fun jH=>?_
    ·(first|exact(Gg No _).drew|exact jH.trans hu3)
    (iterate 6 refine wpF ?_);refine wpZ 6 rfl fun K hK=>?_;go_simp
    (first
  |(go_at_call 167;refine Ck (HC.out _ x) fun w3 hu3=>?_))
    try (go_wp2_with fail)
    refine hK.out _ _ ?_ fun jH=>?_
    ·(first|exact(Gg No _).drew|exact jH.trans hu3)
    try simp only[Qa]
    refine wpK 7 rfl ?_;refine wpD (Gd ?_);have HU:=Qh (hu.trans jH);clear jH q0 q1 q2 e0 e1 e2;go_wp2;go_roundg (m-i);exact⟨i,m,by omega,rfl,by go_num,by omega,by omega,by omega,HU.out⟩;omega
  ·have Cs:i=p:=by omega
   have Dw:j=p:=by omega
   subst Cs;subst Dw
   by_cases hpn:j<l.length
   ·obtain⟨ad,hA,_⟩:=(h.upd (U0.out.trans hu) Qo).at_ hpn;have hq:=fun W (hW:Upd No wr W)=>(h.upd (U0.out.trans (hu.trans hW)) Qo).at_ hpn
    obtain⟨x,hx⟩:=Qe (l[j]);rw[hx]at hq
    have q0:∀W,Upd No wr W->W.cell? (ad.add (j*3))=some (Qi x.kind):=fun W hW=>by
     obtain⟨ad',e,c0,_⟩:=hq W hW;rw[hA]at e
     cases e
     exact c0
    have q1:∀W,Upd No wr W->W.cell? ⟨(ad.add (j*3)).block,(ad.add (j*3)).off+1,none⟩=some (Qi x.label):=fun W hW=>by
     obtain⟨ad',e,_,c1,_⟩:=hq W hW;rw[hA]at e
     cases e
     exact c1
    have q2:∀W,Upd No wr W->W.cell? ⟨(ad.add (j*3)).block,(ad.add (j*3)).off+2,none⟩=some (Qi x.node):=fun W hW=>by
     obtain⟨ad',e,_,_,c2⟩:=hq W hW;rw[hA]at e
     cases e
     exact c2
    have HV:=Qh (show Zf3 l ⟨ek,el,en⟩ j=(ZaU x ⟨ek,el,en⟩==0) by unfold Zf3;rw[Qg hpn,hx]);have b1:(j:Int)<(l.length:Int):=by omega
    have b2:(0:Int)<=(j:Int):=Qn _;have AB:decide (j<l.length)=true:=Qt hpn;have tE:¬(j:Int)<(j:Int):=by omega
    subst hA;clear hq hx;go_wp2;refine wpS (fun w'=>Upd No wr w') ?_ fun jH=>?_
    ·(first|exact(Gg No _).drew|exact jH.trans hu3)
    (iterate 11 refine wpF ?_);refine wpZ 11 rfl fun K hK=>?_;go_simp
    (first
  |(go_at_call 167;refine Ck (HC.out _ x) fun w3 hu3=>?_))
    try (go_wp2_with fail)
    refine hK.out _ _ ?_ fun jH=>?_
    ·(first|exact(Gg No _).drew|exact jH.trans hu3)
    try simp only[Qa]
    (iterate 4 refine wpF ?_);refine wpD (Gd ?_);have HU:=Qh (U0.out.trans (hu.trans jH));clear jH;go_wp2;go_ret2;exact⟨by rw[HV.out];rfl,HU.out⟩
   ·have HV:=Qh (show Zf3 l ⟨ek,el,en⟩ j=false by unfold Zf3;rw[List.getElem?_eq_none (by omega)]);have b1:¬(j:Int)<(l.length:Int):=by omega
    have AB:decide (j<l.length)=false:=Qf hpn;have tE:¬(j:Int)<(j:Int):=by omega
    clear hpn;go_wp2;refine wpS (fun w'=>Upd No wr w') ?_ fun jH=>?_
    ·(first|exact(Gg No _).drew|exact jH.trans hu3)
    (iterate 11 refine wpF ?_);refine wpZ 11 rfl fun K hK=>?_;go_simp;refine hK.out _ _ ?_ fun jH=>?_
    ·exact jH
    try simp only[Qa]
    (iterate 4 refine wpF ?_);refine wpD (Gd ?_);have HU:=Qh (U0.out.trans (hu.trans jH));clear jH;go_wp2;go_ret2;exact⟨by rw[HV.out];rfl,HU.out⟩
/- Walks held against one another,from whichever places they begin. -/
theorem Zu9(w:Gy)(x y:Edge):CN 164 #[.agg x.cells.toArray,.agg y.cells.toArray] w (.bool (ltE x y)):=by
 unfold Edge.cells
 by_cases h1:x.f=y.f
 ·have b1:(x.f != y.f)=false:=by rw[h1];simp
  by_cases h2:x.k=y.k
  ·have b2:(x.k != y.k)=false:=by rw[h2];simp
   by_cases h3:x.key=y.key
   ·have b3:(x.key != y.key)=false:=by rw[h3];simp
    have H:=Qh (show ltE x y=decide (x.t<y.t) by unfold ltE;rw[if_neg (by simpa using h1),if_neg (by simpa using h2),if_neg (by simpa using h3)]);clear h1 h2 h3;go_enter Tryz.func164,Tryz.ntmps164;go_wp2;go_ret;exact⟨by rw[H.out];rfl,((Gg _ _).alloc _).alloc _⟩
   ·have b3:(x.key != y.key)=true:=by rw[bne_iff_ne];exact h3
    have H:=Qh (show ltE x y=decide (x.key<y.key) by unfold ltE;rw[if_neg (by simpa using h1),if_neg (by simpa using h2),if_pos h3]);clear h1 h2 h3;go_enter Tryz.func164,Tryz.ntmps164;go_wp2;go_ret;exact⟨by rw[H.out];rfl,((Gg _ _).alloc _).alloc _⟩
  ·have b2:(x.k != y.k)=true:=by rw[bne_iff_ne];exact h2
   have H:=Qh (show ltE x y=decide (x.k<y.k) by unfold ltE;rw[if_neg (by simpa using h1),if_pos h2]);clear h1 h2;go_enter Tryz.func164,Tryz.ntmps164;go_wp2;go_ret;exact⟨by rw[H.out];rfl,((Gg _ _).alloc _).alloc _⟩
 ·have b1:(x.f != y.f)=true:=by rw[bne_iff_ne];exact h1
  have H:=Qh (show ltE x y=decide (x.f<y.f) by unfold ltE;rw[if_pos h1]);clear h1;go_enter Tryz.func164,Tryz.ntmps164;go_wp2;go_ret;exact⟨by rw[H.out];rfl,((Gg _ _).alloc _).alloc _⟩
/- Texts of numbers,plain:told apart. -/
def isN(d:UInt8):Prop:=(48<=d.toNat∧d.toNat<=57)∨d=45
theorem Zko{x y:UInt8}(hx:¬isN x)(hy:¬isN y){r s:Gk}:∀a b:Gk,(∀d∈a,isN d)->(∀d∈b,isN d)->a++x::r=b++y::s->a=b∧x=y∧r=s
 |[],[],_,_,h=>by
  rw[Fy,Fy]at h;exact⟨rfl,(List.cons.inj h).1,(List.cons.inj h).2⟩
 |[],b::bs,_,hb,h=>by
  rw[Fy,List.cons_append]at h;exact absurd ((List.cons.inj h).1▸hb b (Fc ..)) hx
 |a::xs,[],ha,_,h=>by
  rw[Fy,List.cons_append]at h;exact absurd ((List.cons.inj h).1▸ha a (Fc ..)) hy
 |a::xs,b::bs,ha,hb,h=>by
  rw[List.cons_append,List.cons_append]at h;obtain⟨h1,h2⟩:=List.cons.inj h;obtain⟨e1,e2,e3⟩:=Zko hx hy xs bs (fun d hd=>ha d (E7 _ hd)) (fun d hd=>hb d (E7 _ hd)) h2;exact⟨by rw[h1,e1],e2,e3⟩
def ZhT(l:Gk):Nat:=l.foldl (fun a d=>a*10+(d.toNat-48)) 0
theorem Zo2(l:Gk)(d:UInt8):ZhT (l++[d])=ZhT l*10+(d.toNat-48):=by unfold ZhT;rw[List.foldl_append];rfl
theorem Znz(u:Nat):(UInt8.ofNat (48+u%10)).toNat=48+u%10:=by have:=Zg1 u;omega
theorem Zj1:∀(f u:Nat),u<10 ^ f->ZhT (ZdP f u)=u
 |0,u,h=>by
  have:u=0:=by simpa using h
  subst this;rfl
 |f+1,u,h=>by
  unfold ZdP;rw[Zo2,Znz]
  by_cases hu:u<10
  ·rw[if_pos hu]
   show 0*10+_=_
   omega
  ·rw[if_neg hu,Zj1 f (u/10) (by rw[Nat.pow_succ]at h;omega)];omega
theorem Zgd:∀(f u:Nat),∀d∈ZdP f u,48<=d.toNat∧d.toNat<=57
 |0,u,d,hd=>by simp[ZdP]at hd
 |f+1,u,d,hd=>by
  unfold ZdP at hd;rcases Fu.1 hd with hd|hd
  ·split at hd
   ·cases hd
   ·exact Zgd f _ d hd
  ·rw[Fa]at hd;rw[hd,Znz];omega
theorem Zh6(n:Int):∀d∈Z5 n,isN d:=by
 intro d hd;unfold Z5 ZiU at hd
 split at hd
 ·rcases F9.1 hd with rfl|hd
  ·exact Or.inr rfl
  ·exact Or.inl (Zgd 20 _ d hd)
 ·exact Or.inl (Zgd 20 _ d hd)
theorem Ztw(u:Nat):Zci u≠[]:=by unfold Zci ZdP;simp
theorem Zgc{u:Nat}(h:u<=9223372036854775808):ZhT (Zci u)=u:=Zj1 20 u (by omega)
theorem Zkp(n:Int):∃d r,Z5 n=d::r∧isN d:=by
 cases h:Z5 n with
 |nil=>
  unfold Z5 ZiU at h
  split at h
  ·cases h
  ·exact absurd h (Ztw _)
 |cons d r=>exact⟨d,r,rfl,Zh6 n d (by rw[h];exact Fc ..)⟩
theorem Zrr{n m:Int}(hn:i64 n)(hm:i64 m)(h:Z5 n=Z5 m):n=m:=by
 unfold i64 at hn hm
 have key:∀u v:Nat,¬(45::Zci u=Zci v):=fun u v e=>by
  have:=Zgd 20 v 45 (by show 45∈Zci v;rw[<-e];exact Fc ..);have e2:(45:UInt8).toNat=45:=rfl;omega
 unfold Z5 ZiU at h
 by_cases h1:n<0
 ·rw[Qt h1,if_pos rfl]at h
  by_cases h2:m<0
  ·rw[Qt h2,if_pos rfl]at h;have e:=congrArg ZhT (List.cons.inj h).2;rw[Zgc (by omega),Zgc (by omega)]at e;omega
  ·rw[Qf h2,if_neg (by simp)]at h;exact absurd h (key _ _)
 ·rw[Qf h1,if_neg (by simp)]at h
  by_cases h2:m<0
  ·rw[Qt h2,if_pos rfl]at h;exact absurd h.symm (key _ _)
  ·rw[Qf h2,if_neg (by simp)]at h;have e:=congrArg ZhT h;rw[Zgc (by omega),Zgc (by omega)]at e;omega
theorem Zdh{x y:UInt8}(hx:¬isN x)(hy:¬isN y){n m:Int}(hn:i64 n)(hm:i64 m){r s:Gk}(h:Z5 n++x::r=Z5 m++y::s):n=m∧x=y∧r=s:=by
 obtain⟨h1,h2,h3⟩:=Zko hx hy _ _ (Zh6 n) (Zh6 m) h;exact⟨Zrr hn hm h1,h2,h3⟩
theorem ZgH{x:UInt8}(h:x.toNat<45∨57<x.toNat∨x.toNat=46∨x.toNat=47):¬isN x:=by
 rintro(h1|h1)
 ·omega
 ·rw[h1]at h;have e2:(45:UInt8).toNat=45:=rfl;omega
def ZaW(l:List Edge):Gk:=l.flatMap Zb9
theorem Zir(l:List Edge):∀k,k<=l.length->ZP l k=(if k=0 then [] else match l with|[]=>[]|e::_=>Z5 e.f)++ZaW (l.take k)
 |0,_=>by simp[ZP,ZaW]
 |k+1,hk=>by
  have dq:k<l.length:=by omega
  have e0:ZP l (k+1)=(if k=0 then Z5 l[k].f else ZP l k)++Zb9 l[k]:=by
   conv=>lhs;unfold ZP
   rw[Qg dq]
  rw[e0];unfold ZaW;rw[Es dq,List.flatMap_append];have e1:([l[k]]:List Edge).flatMap Zb9=Zb9 l[k]:=by simp
  rw[e1,if_neg (by omega:¬k+1=0)]
  cases l with
  |nil=>simp at dq
  |cons e r=>
   by_cases h0:k=0
   ·subst h0;simp
   ·rw[if_neg h0,Zir (e::r) k (by omega),if_neg h0];unfold ZaW;rw[Fg]
theorem ZfH(e:Edge)(r:List Edge):ZP (e::r) (e::r).length=Z5 e.f++ZaW (e::r):=by
 rw[Zir _ _ (Nat.le_refl _),if_neg (by simp),Fj]
theorem ZoT{a b:Int}(ha:1<=a∧a<=3)(hb:1<=b∧b<=3){r s:Gk}(h:ZcH a++r=ZcH b++s):a=b∧r=s:=by
 have h1:a=1∨a=2∨a=3:=by omega
 have h2:b=1∨b=2∨b=3:=by omega
 rcases h1 with rfl|rfl|rfl<;>rcases h2 with rfl|rfl|rfl<;>simp[ZcH]at h<;>simp[h]
def ZeO(e:Edge):Prop:=(1<=e.k∧e.k<=3)∧i64 e.f∧i64 e.t∧i64 e.key
theorem Zj5:∀(l m:List Edge),(∀e∈l,ZeO e)->(∀e∈m,ZeO e)->ZaW l++[10]=ZaW m++[10]->l.map (fun e=>(e.k,e.key,e.t))=m.map fun e=>(e.k,e.key,e.t)
 |[],[],_,_,_=>rfl
 |[],e::m,_,_,h=>by
  simp[ZaW,Zb9]at h
 |e::l,[],_,_,h=>by
  simp[ZaW,Zb9]at h
 |e::l,g::m,hl,hm,h=>by
  obtain⟨k1,_,t1,y1⟩:=hl e (Fc ..);obtain⟨k2,_,t2,y2⟩:=hm g (Fc ..)
  have h':32::(ZcH e.k++(Z5 e.key++32::(Z5 e.t++(ZaW l++[10]))))=32::(ZcH g.k++(Z5 g.key++32::(Z5 g.t++(ZaW m++[10])))):=by
   have e1:∀(e:Edge) (l:List Edge),ZaW (e::l)++[10]=32::(ZcH e.k++(Z5 e.key++32::(Z5 e.t++(ZaW l++[10])))):=fun e l=>by
    unfold ZaW Zb9;rw[List.flatMap_cons];simp
   rw[<-e1,<-e1];exact h
  have n32:¬isN 32:=ZgH (Or.inl (by decide));have n10:¬isN 10:=ZgH (Or.inl (by decide));obtain⟨a1,a2⟩:=ZoT k1 k2 (List.cons.inj h').2;obtain⟨b1,_,b2⟩:=Zdh n32 n32 y1 y2 a2
  have tail:∀l:List Edge,∃x r,ZaW l++[10]=x::r∧¬isN x:=fun l=>by
   cases l with
   |nil=>exact⟨10,[],rfl,n10⟩
   |cons e l=>exact⟨32,_,by unfold ZaW Zb9;rw[List.flatMap_cons];simp;rfl,n32⟩
  obtain⟨x,r,hx,nx⟩:=tail l;obtain⟨y,s,hy,ny⟩:=tail m;rw[hx,hy]at b2;obtain⟨c1,c2,c3⟩:=Zdh nx ny t1 t2 b2;have h3:=Zj5 l m (fun e he=>hl e (E7 _ he)) (fun e he=>hm e (E7 _ he)) (by rw[hx,hy,c2,c3]);rw[Gb,Gb,h3,a1,b1,c1]
def Zdp:List Edge->Prop
 |[]=>True
 |[_]=>True
 |e::g::l=>e.t=g.f∧Zdp (g::l)
theorem ZkZ:∀(l m:List Edge),Zdp l->Zdp m->l.map (fun e=>(e.k,e.key,e.t))=m.map (fun e=>(e.k,e.key,e.t))->(∀e g,l.head? =some e->m.head? =some g->e.f=g.f)->l=m
 |[],[],_,_,_,_=>rfl
 |[],_::_,_,_,h,_=>by simp at h
 |_::_,[],_,_,h,_=>by simp at h
 |e::l,g::m,hl,hm,h,hf=>by
  rw[Gb,Gb]at h;obtain⟨h1,h2⟩:=List.cons.inj h;simp only[Ga]at h1
  have e1:e=g:=by
   have:=hf e g rfl rfl
   cases e;cases g
   simp only at this h1;simp[this,h1]
  subst e1
  congr 1
  refine ZkZ l m ?_ ?_ h2 ?_
  ·cases l with
   |nil=>trivial
   |cons a l=>exact hl.2
  ·cases m with
   |nil=>trivial
   |cons a m=>exact hm.2
  ·intro a b ha hb
   cases l with
   |nil=>cases ha
   |cons a' l=>
    cases m with
    |nil=>cases hb
    |cons b' m=>
     cases ha;cases hb
     rw[<-hl.1,<-hm.1]
abbrev Gn:=List DEnd
