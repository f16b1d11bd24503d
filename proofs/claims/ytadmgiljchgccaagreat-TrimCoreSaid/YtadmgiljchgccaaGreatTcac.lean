/- When two lists of numbers are one, by the document. -/
import Derived.StillTailTactics
import Derived.Test.YtadmgiljchgccaaGreatTcab
namespace Go.Proofs.YtadmgiljchgccaaGreat
open Go.RowKit
set_option linter.unusedVariables false
set_option linter.unusedSimpArgs false
set_option maxRecDepth 100000
set_option maxHeartbeats 1000000
theorem Zw1(w:I0)(F G:Iw)(A B:OA)(c d:Nat)(xs ys:Iv)(hx:Ints F w A xs)(hy:Ints G w B ys)(hl:xs.length<=1048576)(bC:ys.length<=1048576):
  CN 9 #[.slice A xs.length c,.slice B ys.length d] w (.bool (xs==ys)):=by
 by_cases hne:xs.length=ys.length
 ·have hb:((xs.length:Int) != (ys.length:Int))=false:=by rw[hne];simp
  go_enter Tryz.func9,Tryz.ntmps9;have AZ:=Qh hne;clear hne;go_wp2
  go_loopg [5,13] xs.length (fun gk j i wr=>∃k:Nat,k+gk=xs.length∧i= Qi k∧xs.take k=ys.take k∧Upd No w wr)
  case atStart=>exact⟨0,by omega,rfl,by simp,Il _ _⟩
  case round=>
   obtain⟨k,aI,rfl,hs,hu⟩:=hrel;have Hs:=Qh hs;clear hs
   by_cases hlt:k<xs.length
   ·have hlt2:k<ys.length:=by have:=AZ.out;omega
    obtain⟨ax,rfl,_,_,FK⟩:=(hx.upd hu Qo).at_ hlt;obtain⟨ay,rfl,_,_,F4⟩:=(hy.upd hu Qo).at_ hlt2;have b1:(0:Int)<=(k:Int):=Qn _;have b2:(k:Int)<(xs.length:Int):=by omega
    have b3:(k:Int)<(ys.length:Int):=by omega
    by_cases he:xs[k]=ys[k]
    ·have eO:(xs[k] != ys[k])=false:=by rw[he];simp
     have He:=Qh he;clear he;go_wp2
     go_quiet (fail)
     go_wp2;go_roundg (gk-1)
     case measure=>omega
     case rel=>
      refine⟨k+1,by omega,by go_num,?_,hu.drewN _⟩;rw[Gb hlt,Gb hlt2,Hs.out,He.out]
    ·have eO:(xs[k] != ys[k])=true:=by simpa using he
     have He:=Qh he;clear he;go_wp2
     go_quiet (fail)
     go_wp2;go_ret
     have jV:(xs==ys)=false:=by
      rw[beq_eq_false_iff_ne];rintro rfl;exact He.out rfl
     exact⟨by rw[jV];rfl,hu.drewN _⟩
   ·obtain rfl:k=xs.length:=by omega
    go_wp2;go_ret;have h2:=Hs.out;rw[G7,AZ.out,G7]at h2;exact⟨by rw[h2,beq_self_eq_true];rfl,hu⟩
 ·have hb:((xs.length:Int) != (ys.length:Int))=true:=by rw[bne_iff_ne];omega
  have hf:(xs==ys)=false:=by rw[beq_eq_false_iff_ne];rintro rfl;exact hne rfl
  have Hf:=Qh hf;clear hf;go_enter Tryz.func9,Tryz.ntmps9;go_wp2;go_ret;exact⟨by rw[Hf.out];rfl,Il _ _⟩
/- The same row twice is the same. -/
theorem Zqa(w:I0)(F G:Iw)(A B:OA)(c d:Nat)(xs:Iv)(hx:Ints F w A xs)(hy:Ints G w B xs)(hl:xs.length<=1048576):
  CN 9 #[.slice A xs.length c,.slice B xs.length d] w (.bool true):=by
 refine(Zw1 w F G A B c d xs xs hx hy hl hl).mono ?_;rintro e w' ⟨rfl,h⟩;exact⟨by simp,h⟩
/- Queues and stacks:what they are in memory,and walks of the calls that only look. -/
theorem Zgv:SlT Tryz.prog 27 3 1 8:=SlT.mk_ Tryz.underlying27 (z:= Qi 0) (by kernel_rfl) rfl (by omega)
def Pow(n:Nat):Prop:=n=0∨∃k,n=2 ^ k
def Z0(from_ i n:Nat):Nat:=(from_+i)%n
def grow(n:Nat):Nat:=if n=0 then 1 else 2*n
theorem Ztd(n:Nat):(if 1<(n:Int)*2 then (n:Int)*2 else 1)=((grow n:Nat):Int):=by
 unfold grow
 split<;>split<;>omega
theorem Zvg(n:Nat):1<=grow n∧grow n<=2*n+1∧n<grow n:=by unfold grow;split<;>omega
theorem ZmD{n:Nat}(h:Pow n):∃k,grow n=2 ^ k:=by
 unfold grow;rcases h with rfl|⟨k,rfl⟩
 ·exact⟨0,by simp⟩
 ·exact⟨k+1,by have:=Nat.one_le_two_pow (n:=k);rw[if_neg (by omega),Nat.pow_succ];omega⟩
theorem Zec(w:I0)(g:Nat)(A:OA)(n c k:Nat)(room cnt:Iz)(fr:Nat)(i:Int)(hb:Blk w g 301 [room,.slice A n c,.int .u64 fr,cnt])
  (hn:n=2 ^ k) (hs:n<=1048576) (hi:0<=i) (hi2:i<=1048576) (hf:fr<=1048576):
  Calls Tryz.prog 273 #[.pointer (some ⟨g,0,none⟩),Qi i] w fun e w'=>e= .returned (.int .u64 (Z0 fr i.toNat n:Nat))∧∃q,w'=w.drewN q:=by
 have c1:=hb.cell 1;have c2:=hb.cell 2;simp only[Qz,Qs]at c1 c2;have iJ:1<=n:=by rw[hn];exact Nat.one_le_two_pow
 obtain⟨j,rfl⟩:=Int.eq_ofNat_of_zero_le hi
 have mD:bits .and .u64 ((fr:Int)+j) ((n:Int)-1)=((Z0 fr j n:Nat):Int):=by
  have h1:=u64_and_nat (fr+j) (n-1) (by omega) (by omega);rw[show((fr:Int)+j)=((fr+j:Nat):Int) by omega,show((n:Int)-1)=((n-1:Nat):Int) by omega,h1];unfold Z0;rw[hn,Nat.and_two_pow_sub_one_eq_mod]
 have Hb:=Qh mD;have Hn:=Qh hn;clear mD hn;go_enter Tryz.func273,Tryz.ntmps273;go_wp2
 go_quiet (fail)
 go_wp2;go_ret;exact⟨by rw[Hb.out];rfl,_,rfl⟩
def Que(w:I0)(F:Iw)(g:Nat)(room:Int)(xs:Iv):Prop:=
 ∃(v:Iz) (n:Nat) (ring:Iv) (fr:Nat),F g∧(∀k,v.ownBlock=some k->F k∧k≠g)∧(∀k,F k->k<w.heap.size)∧
  Blk w g 301 [Qi room,v,.int .u64 ((fr:Nat):Int),Qi xs.length]∧w.ownsRow 0 3 1 v n (ring.map (Value.int .i64))∧
  Pow n∧n<=131072∧fr<=n∧xs.length<=n∧∀i v,xs[i]? =some v->ring[Z0 fr i n]? =some v
namespace Que
variable {w w':I0} {F S:Iw} {g:Nat} {room:Int} {xs:Iv}
theorem upd(h:Que w F g room xs)(k:Upd S w w')(hn:∀i,F i->¬S i):Que w' F g room xs:=by
 obtain⟨v,n,ring,fr,h1,h2,h3,h4,h5,h6⟩:=h;exact⟨v,n,ring,fr,h1,h2,fun i hi=>Gu (h3 i hi) k.size,h4.upd k (hn _ h1),Za h5 k (fun i hi=>hn _ (h2 i hi).1),h6⟩
theorem lt(h:Que w F g room xs):∀i,F i->i<w.heap.size:=by
 obtain⟨v,n,ring,fr,h1,h2,h3,_⟩:=h;exact h3
end Que
theorem ZuD{fr i j n:Nat}(hij:i<j)(hj:j<n):Z0 fr i n≠Z0 fr j n:=fun e=>by
 unfold Z0 at e;have h:=Nat.sub_mod_eq_zero_of_mod_eq e.symm;rw[show fr+j-(fr+i)=j-i by omega,Nat.mod_eq_of_lt (by omega)]at h;omega
theorem Zex{fr i n:Nat}(h:0<n):Z0 fr i n<n:=Nat.mod_lt _ h
theorem ZqR(n:Nat):(madeCells #[Value.int .i64 0] n).toList=(List.replicate n (0:Int)).map (Value.int .i64):=by
 apply List.ext_getElem
 ·simp[madeCells]
 ·intro i h1 h2;simp[madeCells,Nat.mod_one]
theorem ZnI{W:I0}{F:Iw}{g gl n c fr:Nat}{room:Int}{xs ring:Iv}(x:Int)
  (hb:Blk W g 301 [Qi room,.slice (some ⟨gl,0,none⟩) n c,.int .u64 ((fr:Nat):Int),Qi xs.length])
  (ho:W.ownsRow 0 3 1 (.slice (some ⟨gl,0,none⟩) n c) n (ring.map (Value.int .i64))) (hne:gl≠g) (hF:F g) (vG:F gl) (lH:∀k,F k->k<W.heap.size)
  (hp:Pow n) (hn:n<=131072) (rA:fr<=n) (hl:xs.length<n) (hr:∀i v,xs[i]? =some v->ring[Z0 fr i n]? =some v):
  Que ((W.setCell ⟨gl,Z0 fr xs.length n,none⟩ (Qi x)).setCell ⟨g,3,none⟩ (Qi ((xs.length:Int)+1))) F g room (xs++[x]):=by
 have kU:ring.length=n:=by have:=ho.1;simpa using this
 have im:Z0 fr xs.length n<n:=Zex (by omega);have cE:=(ho.stored (Z0 fr xs.length n) (Qi x)).1
 have j6:=Za cE (((Il (One g) _).setOne 3 (Qi ((xs.length:Int)+1)))) (fun i hi e=>by
  have e1:gl=i:=by simpa[Value.ownBlock]using hi
  have e2:i=g:=e;omega)
 refine⟨.slice (some ⟨gl,0,none⟩) n c,n,ring.set (Z0 fr xs.length n) x,fr,hF,?_,?_,?_,?_,hp,hn,rA,by simp;omega,?_⟩
 ·intro k hk;have e1:gl=k:=by simpa[Value.ownBlock]using hk
  exact⟨e1▸vG,by omega⟩
 ·intro k hk;simpa[World.setCell]using lH k hk
 ·have:=(hb.far (p:=⟨gl,Z0 fr xs.length n,none⟩) (Ne.symm hne) (Qi x)).set_ 3 (Qi ((xs.length:Int)+1))
  simpa using this
 ·rw[List.map_set];exact j6
 ·intro i v hi;rw[List.getElem?_append]at hi
  split at hi
  ·rename_i cR
   rw[List.getElem?_set_ne (Ne.symm (ZuD cR hl))];exact hr i v hi
  ·have pG:i=xs.length:=by
    have:=(List.getElem?_eq_some_iff.1 hi).1;simp at this;omega
   subst pG;simp at hi;subst hi;rw[List.getElem?_set_self (by omega)]
theorem Zst(w:I0)(F:Iw)(g:Nat)(room:Int)(xs:Iv)(h:Que w F g room xs):
  CE 282 #[.pointer (some ⟨g,0,none⟩)] w (Qi xs.length):=by
 obtain⟨v,n,ring,fr,h1,h2,h3,h4,h5,h6⟩:=h;have c3:=h4.cell 3;simp only[Qz,Qs]at c3;clear h2 h3 h6;go_enter Tryz.func282,Tryz.ntmps282;go_wp2;go_ret;exact⟨rfl,rfl⟩
theorem Zw6(w:I0)(F:Iw)(g:Nat)(room:Int)(xs:Iv)(h:Que w F g room xs)(hr:0<=room)(fX:room<=65536):
  Calls Tryz.prog 271 #[.pointer (some ⟨g,0,none⟩)] w fun e w'=>e= .returned (Qi (room-xs.length))∧∃q,w'=w.drewN q:=by
 obtain⟨v,n,ring,fr,h1,h2,h3,h4,h5,h6,h7,h8,h9,_⟩:=h;have c3:=h4.cell 3;have c0:=h4.cell 0;simp only[Qz,Qs]at c3 c0;clear h2 h3 h6;go_enter Tryz.func271,Tryz.ntmps271;go_wp2
 go_quiet (fail)
 go_wp2;go_ret;exact⟨rfl,_,rfl⟩
theorem Zw7(w:I0)(F:Iw)(g:Nat)(room:Int)(xs:Iv)(h:Que w F g room xs):
  Calls Tryz.prog 272 #[.pointer (some ⟨g,0,none⟩)] w fun e w'=>∃A c,e= .returned (.slice A xs.length c)∧Ints (fun i=>w.heap.size<=i) w' A xs∧Upd No w w':=by
 go_enter Tryz.func272,Tryz.ntmps272;go_wp2_with fail;refine(Zst _ F _ _ _ h).mono ?_;rintro e w' ⟨rfl,rfl⟩;go_wp2;have au:xs.length<=131072:=by obtain⟨v,n,ring,fr,_,_,_,_,_,_,h7,_,h9,_⟩:=h;omega
 go_loopg [3,4,7] xs.length (fun gk l j i wr=>∃k:Nat,k+gk=xs.length∧i= Qi k∧wr.ownsRow w.heap.size 3 1 l k ((xs.take k).map (Value.int .i64))∧Upd No w wr)
 case atStart=>exact⟨0,by omega,rfl,by simpa using Ik _ _ _ _,Il _ _⟩
 case round=>
  obtain⟨k,aI,rfl,m5,rY⟩:=hrel;have dE:=rY.size
  by_cases hlt:k<xs.length
  ·obtain⟨v,n,ring,fr,h1,h2,h3,h4,h5,h6,h7,h8,h9,kJ⟩:=h.upd rY Qo;obtain⟨gl,cap,rfl,ft,gM⟩:=h5.form (by omega);have d7:=h2 gl rfl;have hx:xs[k]? =some xs[k]:=Qg hlt;have hr:=kJ k xs[k] hx;have kU:=(List.getElem?_eq_some_iff.1 hr).1;have lV:=h5.cells (g:=gl) rfl (Z0 fr k n) (Qi xs[k]) (by rw[List.getElem?_map,hr];rfl);have pr:=h.lt g h1;have Fl:=h.lt gl d7.1;have c1:=h4.cell 1;simp only[Qz,Qs]at c1;rcases h6 with h6|⟨kk,h6⟩
   ·omega
   have Hx:=Qh hx;have Hr:=Qh hr;have H6:=Qh h6;have e1:(⟨gl,0,none⟩:Addr).add (Z0 fr k n)=⟨gl,Z0 fr k n,none⟩:=by unfold Addr.add;split<;>simp_all
   rw[e1]at lV;clear hx hr h6 kJ h2 h3 e1;have cA:((Z0 fr k n:Nat):Int)<(n:Int):=by have:=Nat.mod_lt (fr+k) (show 0<n by omega);unfold Z0;omega
   have nZ:(0:Int)<=((Z0 fr k n:Nat):Int):=Qn _;have hno:∀i,Own u3 i->w.heap.size<=i:=fun i e=>(m5.lt i e).1
   go_wp2
   go_region_held3 (fun w'=>Blk w' g 301 [Qi room,.slice (some ⟨gl,0,none⟩) n cap,.int .u64 (fr:Int),Qi xs.length]∧w'.cell? ⟨g,1,none⟩=some (.slice (some ⟨gl,0,none⟩) n cap)∧w'.cell? ⟨gl,Z0 fr k n,none⟩=some (Qi xs[k]))
    (first|exact⟨h4,c1,lV⟩|(go_split_ands;refine⟨?_,?_,?_⟩<;>first|assumption|(apply Blk.alloc;assumption)|(apply Blk.drew;assumption)|(exact Blk.upd (by assumption) eV (fun e=>by have:=hno _ e;omega))|(exact eV.keep (by assumption) (fun e=>by have:=hno _ e;simp at this;omega))|go_keep)) (first|(refine Zaq (by rfl) (by rfl) Zgv (by rfl) (by rfl) (by exact m5.alloc _) rfl (by exact Zah) (by rfl) (by omega) (by omega) (by exact(Il No w |>.trans rY |>.alloc _).size) ?_;intro gn capn w1 aM eV gT ji)|(go_at_call 273;refine(Zec _ g _ n cap kk _ _ fr _ (by assumption) H6.out (by omega) (by omega) (by omega) (by omega)).mono ?_;rintro e w' ⟨rfl,q,rfl⟩))
   go_wp2;go_roundg (gk-1)
   case measure=>omega
   case rel=>
    refine⟨k+1,by omega,by go_num,?_,(rY.alloc _).trans_ (eV.of_drewN) (fun i hi e=>by have:=hno _ e;omega)⟩;rw[Gb hlt,Hu];exact aM
  ·obtain rfl:k=xs.length:=by omega
   obtain⟨A,c,rfl⟩:=Zaz m5;have hx:=Ints.of_own m5;rw[G7]at hx;go_wp2;go_ret;exact⟨A,c,rfl,hx,rY⟩
/- Queues:a number is put in. -/
theorem Zt4(w:I0)(F:Iw)(g:Nat)(room:Int)(xs:Iv)(x:Int)(h:Que w F g room xs)(hr:0<=room)(fX:room<=65536)(hf:(xs.length:Int)<room):
  Calls Tryz.prog 249 #[.pointer (some ⟨g,0,none⟩),Qi x] w fun e w'=>e= .returned (Qi 0)∧
   ∃F',(∀i,F' i->F i∨w.heap.size<=i)∧Que w' F' g room (xs++[x])∧Upd F w w':=by
 have hz:(room-(xs.length:Int)==0)=false:=by rw[beq_eq_false_iff_ne];omega
 go_enter Tryz.func249,Tryz.ntmps249;go_wp2_with fail;refine(Zw6 _ F _ _ _ h hr fX).mono ?_;rintro e w' ⟨rfl,q,rfl⟩;obtain⟨v,n,ring,fr,h1,h2,h3,h4,h5,h6,h7,h8,h9,kJ⟩:=id h;obtain⟨A,c,rfl⟩:=Zaz h5;have c1:=h4.cell 1;have c3:=h4.cell 3;simp only[Qz,Qs]at c1 c3
 by_cases hful:xs.length=n
 ·have vg:((xs.length:Int)==(n:Int))=true:=by rw[beq_iff_eq];omega
  have zi:=Qh hful;clear hful;go_wp2
  go_quiet (fail)
  go_wp2_with fail;refine(Zw7 _ F _ _ _ (h.upd ((Il No w).drewN _) Qo)).mono ?_;rintro e w2 ⟨A2,cc2,rfl,cO,hu2⟩;have gY:Upd No w w2:=hu2.of_drewN;have qA:=gY.size
  replace cO:Ints (fun i=>w.heap.size<=i) w2 A2 xs:=cO
  have aS:=h4.upd gY id;obtain⟨d0,d1,d2,d3⟩:=aS.c4;have f1:=aS.free 1;have f2:=aS.free 2;clear c1 c3;have hg:=Zvg xs.length;have hM:=Ztd xs.length;have hmk:=fun W=>Zfz W Zgv (z:= Qi 0) (by kernel_rfl) (grow xs.length) (by omega) (by omega)
  have EN:=aS.lt;have Db:=World.new_ne w2 _ d1;have oV:(madeCells #[Value.int .i64 0] (grow xs.length)).toList.length=grow xs.length:=by simp[madeCells]
  have yG:=Qh oV;clear oV;have F9:g<w.heap.size:=h4.lt
  go_upto_region 6 with (fail)
  iterate 16 go_step
  refine ZxF rfl rfl Zgv rfl rfl (dc:=(madeCells #[Qi 0] (grow xs.length)).toList) (sc:=xs.map (Value.int .i64)) (t:=3) (by exact Blk.new_at (by simp)) (by rw[yG.out];omega) (by simp) (by omega) (by exact((cO.upd (((Il (One g) w2).setOne _ _).setOne _ _ |>.alloc _) (fun i hi e=>by have:i=g:=e;omega))).vals) (Ints.one_ xs) ?_;intro w3 dp hu3;simp only[Act.put,List.setIfInBounds_toArray,List.set_cons_succ,List.set_cons_zero];have hbx:=((((aS.set_ 1 (.slice (some ⟨w2.heap.size,0,none⟩) (grow xs.length) (grow xs.length))).set_ 2 (.int .u64 0)).alloc (.cells (madeCells #[Qi 0] (grow xs.length)) 3)).upd hu3 (fun e=>by have:g=w2.heap.size:=e;omega));simp only[List.set_cons_zero,List.set_cons_succ]at hbx;have gZ:Upd (One g) w w3:=(((((Il (One g) w2).setOne 1 _).setOne 2 _).alloc _).trans_ hu3 (fun i hi e=>by have:i=w2.heap.size:=e;omega)) |> fun k=>(gY.mono (fun _ _ e=>e.elim)).trans k
  clear aS d0 d1 d2 d3 f1 f2 hu3 gY hu2 hmk hM cO h4 h5;have c1:=hbx.cell 1;have c3:=hbx.cell 3;have f3:=hbx.free 3;simp only[Qz,Qs]at c1 c3;have vo:=h6;rw[<-zi.out]at vo;have rT:w.heap.size<=w2.heap.size:=qA;obtain⟨kk,bJ⟩:=ZmD vo;have nl:=Qh bJ;have cA:((Z0 0 xs.length (grow xs.length):Nat):Int)<((grow xs.length:Nat):Int):=by have:=Nat.mod_lt (0+xs.length) (show 0<grow xs.length by omega);unfold Z0;omega
  have nZ:(0:Int)<=((Z0 0 xs.length (grow xs.length):Nat):Int):=Qn _;have fr3:=dp.free (Z0 0 xs.length (grow xs.length))
  obtain⟨v0,cr⟩:∃v0,w3.cell? ⟨w2.heap.size,Z0 0 xs.length (grow xs.length),none⟩=some v0:=by
   rw[dp.cell,Qg (by rw[Gt,G5,Hw,yG.out];omega)];exact⟨_,rfl⟩
  clear bJ
  go_upto_region 7 with (fail)
  go_region_held3 (fun w'=>Blk w' g 301 [Qi room,.slice (some ⟨w2.heap.size,0,none⟩) (grow xs.length) (grow xs.length),.int .u64 0,Qi xs.length]∧w'.cell? ⟨g,1,none⟩=some (.slice (some ⟨w2.heap.size,0,none⟩) (grow xs.length) (grow xs.length))∧w'.cell? ⟨g,3,none⟩=some (Qi xs.length))
   (first|exact⟨hbx,c1,c3⟩|(go_split_ands;refine⟨?_,?_,?_⟩<;>first|assumption|(exact Blk.far (by assumption) (by simp;omega) _)|(rw[World.cell?_setCell_far _ _ _ _ (by simp;omega)];assumption)|go_keep))
   (first|(go_at_call 273;refine(Zec _ g _ (grow xs.length) (grow xs.length) kk _ _ 0 _ (by assumption) nl.out (by omega) (by omega) (by omega) (by omega)).mono ?_;rintro e w' ⟨rfl,q,rfl⟩))
  go_wp2;go_ret;refine⟨rfl,fun i=>i=g∨i=w2.heap.size,?_,?_,?_⟩
  ·rintro i (rfl|rfl)
   ·exact .inl h1
   ·exact .inr rT
  ·have ho:w3.ownsRow 0 3 1 (.slice (some ⟨w2.heap.size,0,none⟩) (grow xs.length) (grow xs.length)) (grow xs.length) ((xs++List.replicate (grow xs.length-xs.length) (0:Int)).map (Value.int .i64)):=by
    refine⟨by simp;omega,.inr ⟨w2.heap.size,_,_,rfl,Nat.zero_le _,dp,Nat.le_refl _,by simp only[maxLen];omega,?_,?_⟩⟩
    ·simp[yG.out];omega
    ·rw[ZqR,Nat.mul_one,List.take_of_length_le (by simp;omega),<-List.map_drop,List.drop_replicate,Hu]
   have vj:Blk w3 g 301 [Qi room,.slice (some ⟨w2.heap.size,0,none⟩) (grow xs.length) (grow xs.length),.int .u64 ((0:Nat):Int),Qi xs.length]:=hbx
   have hq:=ZnI (F:=fun i=>i=g∨i=w2.heap.size) x vj ho (by omega) (.inl rfl) (.inr rfl) (by rintro k (rfl|rfl);exact hbx.lt;exact dp.lt) (.inr (ZmD vo)) (by omega) (by omega) (by omega) (fun i v hi=>by
    have cR:=(List.getElem?_eq_some_iff.1 hi).1;have e1:Z0 0 i (grow xs.length)=i:=by unfold Z0;rw[Nat.zero_add,Nat.mod_eq_of_lt (by omega)]
    rw[e1,List.getElem?_append_left cR];exact hi)
   exact hq
  ·refine(((gZ.mono (fun i _ (e:i=g)=>e▸h1)).drewN _).setCell (p:=⟨w2.heap.size,_,none⟩) (.inr rT) _).setCell (p:=⟨g,3,none⟩) (.inl h1) _
 ·have vg:((xs.length:Int)==(n:Int))=false:=by rw[beq_eq_false_iff_ne];omega
  obtain⟨gl,cap,hv,_,gM⟩:=h5.form (by omega);simp only[Value.slice.injEq]at hv;obtain⟨rfl,_,rfl⟩:=hv;have d7:=h2 gl rfl;have cA:((Z0 fr xs.length n:Nat):Int)<(n:Int):=by have:=Zex (fr:=fr) (i:=xs.length) (show 0<n by omega);omega
  have nZ:(0:Int)<=((Z0 fr xs.length n:Nat):Int):=Qn _;have Fo:=Zex (fr:=fr) (i:=xs.length) (show 0<n by omega);have kU:ring.length=n:=by have:=h5.1;simpa using this
  have F8:=Qh kU;have f3:=h4.free 3;have fr3:=h5.frozenAt (Z0 fr xs.length n);have zL:=h5.cellAt (Z0 fr xs.length n) (by omega)
  obtain⟨v0,cr⟩:∃v0,w.cell? ⟨gl,Z0 fr xs.length n,none⟩=some v0:=by
   rw[zL,Qg (by rw[Hw];omega)];exact⟨_,rfl⟩
  obtain⟨kk,bJ⟩:∃kk,n=2 ^ kk:=h6.resolve_left (by omega);have nl:=Qh bJ;have hbx:=h4;have hgg:=h4.lt;clear bJ kU zL;go_wp2
  go_quiet (fail)
  go_upto_region 7 with (fail)
  go_region_held3 (fun w'=>Blk w' g 301 [Qi room,.slice (some ⟨gl,0,none⟩) n c,.int .u64 (fr:Int),Qi xs.length]∧w'.cell? ⟨g,1,none⟩=some (.slice (some ⟨gl,0,none⟩) n c)∧w'.cell? ⟨g,3,none⟩=some (Qi xs.length))
   (first|exact⟨hbx,c1,c3⟩|(go_split_ands;refine⟨?_,?_,?_⟩<;>first|assumption|(exact Blk.far (by assumption) (by simp;omega) _)|(rw[World.cell?_setCell_far _ _ _ _ (by simp;omega)];assumption)|go_keep))
   (first|(go_at_call 273;refine(Zec _ g _ n c kk _ _ fr _ (by assumption) nl.out (by omega) (by omega) (by omega) (by omega)).mono ?_;rintro e w' ⟨rfl,q,rfl⟩))
  go_wp2;go_ret;refine⟨rfl,F,fun i hi=> .inl hi,?_,?_⟩
  ·exact ZnI x hbx h5 d7.2 h1 d7.1 h3 h6 h7 h8 (by omega) kJ
  ·exact(((Il F w).drewN _).setCell (p:=⟨gl,_,none⟩) (.inl d7.1) _).setCell (p:=⟨g,3,none⟩) (.inl h1) _
/- Queues:what is first,and taken. Stacks. -/
theorem Zng(w:I0)(F:Iw)(g:Nat)(room:Int)(h:Que w F g room []):
  CE 274 #[.pointer (some ⟨g,0,none⟩)] w (.tuple #[Qi 0,.bool false]):=by
 go_enter Tryz.func274,Tryz.ntmps274;go_wp2_with fail;refine(Zst _ F _ _ _ h).mono ?_;rintro e w' ⟨rfl,rfl⟩;go_wp2;go_ret2;exact⟨rfl,rfl⟩
theorem ZvX(w:I0)(F:Iw)(g:Nat)(room:Int)(x:Int)(xs:Iv)(h:Que w F g room (x::xs)):
  Calls Tryz.prog 274 #[.pointer (some ⟨g,0,none⟩)] w fun e w'=>e= .returned (.tuple #[Qi x,.bool true])∧∃q,w'=w.drewN q:=by
 have hz:((((x::xs).length:Nat):Int)==0)=false:=by rw[beq_eq_false_iff_ne];simp only[G1];omega
 have aZ:(x::xs)[0]? =some x:=rfl;have Hx:=Qh aZ;clear aZ;generalize x::xs=l at*;obtain⟨v,n,ring,fr,h1,h2,h3,h4,h5,h6,h7,h8,h9,kJ⟩:=id h;have hl0:=(List.getElem?_eq_some_iff.1 Hx.out).1;have hr:=kJ 0 x Hx.out;obtain⟨gl,cap,rfl,_,gM⟩:=h5.form (by omega);obtain⟨kk,bJ⟩:∃kk,n=2 ^ kk:=h6.resolve_left (by omega);have nl:=Qh bJ;have c1:=h4.cell 1;simp only[Qz,Qs]at c1
 have cr:w.cell? ⟨gl,Z0 fr 0 n,none⟩=some (Qi x):=by
  rw[h5.cellAt _ (by have:=Zex (fr:=fr) (i:=0) (show 0<n by omega);omega),List.getElem?_map,hr];rfl
 have cA:((Z0 fr 0 n:Nat):Int)<(n:Int):=by have:=Zex (fr:=fr) (i:=0) (show 0<n by omega);omega
 have nZ:(0:Int)<=((Z0 fr 0 n:Nat):Int):=Qn _;clear bJ hr kJ h2 h3;go_enter Tryz.func274,Tryz.ntmps274;go_wp2_with fail;refine(Zst _ F _ _ _ h).mono ?_;rintro e w' ⟨rfl,rfl⟩;go_wp2
 go_quiet ((go_at_call 273;go_loud (exact Calls.quiet_of (Zec _ g _ n cap kk _ _ fr 0 (h4.drewN _) nl.out (by omega) (by omega) (by omega) (by omega)))))
 go_wp2;go_ret2;exact⟨rfl,_,rfl⟩
theorem ZuS{W:I0}{F:Iw}{g gl n c fr:Nat}{room:Int}{x:Int}{xs ring:Iv}
  (hb:Blk W g 301 [Qi room,.slice (some ⟨gl,0,none⟩) n c,.int .u64 ((fr:Nat):Int),Qi (x::xs).length])
  (ho:W.ownsRow 0 3 1 (.slice (some ⟨gl,0,none⟩) n c) n (ring.map (Value.int .i64))) (hne:gl≠g) (hF:F g) (vG:F gl) (lH:∀k,F k->k<W.heap.size)
  (hp:Pow n) (hn:n<=131072) (rA:fr<=n) (hl:(x::xs).length<=n) (hr:∀i v,(x::xs)[i]? =some v->ring[Z0 fr i n]? =some v) (cnt:Int) (gr:cnt=xs.length):
  Que ((W.setCell ⟨g,2,none⟩ (.int .u64 ((Z0 fr 1 n:Nat):Int))).setCell ⟨g,3,none⟩ (Qi cnt)) F g room xs:=by
 subst gr;simp only[G1]at hl;refine⟨.slice (some ⟨gl,0,none⟩) n c,n,ring,Z0 fr 1 n,hF,?_,?_,?_,?_,hp,hn,Nat.le_of_lt (Zex (by omega)),by omega,?_⟩
 ·intro k hk;have e1:gl=k:=by simpa[Value.ownBlock]using hk
  exact⟨e1▸vG,by omega⟩
 ·intro k hk;simpa[World.setCell]using lH k hk
 ·simpa using(hb.set_ 2 (.int .u64 ((Z0 fr 1 n:Nat):Int))).set_ 3 (Qi (xs.length:Int))
 ·exact Za ho ((((Il (One g) _).setOne 2 _).setOne 3 _)) (fun i hi e=>by
   have e1:gl=i:=by simpa[Value.ownBlock]using hi
   have e2:i=g:=e;omega)
 ·intro i v hi;have:=hr (i+1) v (by simpa using hi);rw[<-this]
  congr 1
  unfold Z0;rw[Nat.mod_add_mod,Nat.add_assoc,Nat.add_comm 1 i]
theorem Zkk(w:I0)(F:Iw)(g:Nat)(room:Int)(h:Que w F g room []):
  CE 250 #[.pointer (some ⟨g,0,none⟩)] w (.tuple #[Qi 0,.bool false]):=by
 go_enter Tryz.func250,Tryz.ntmps250;go_wp2_with fail;refine(Zng _ F _ _ h).mono ?_;rintro e w' ⟨rfl,rfl⟩;go_wp2;go_ret2;exact⟨rfl,rfl⟩
theorem ZvV(w:I0)(F:Iw)(g:Nat)(room:Int)(x:Int)(xs:Iv)(h:Que w F g room (x::xs)):
  Calls Tryz.prog 250 #[.pointer (some ⟨g,0,none⟩)] w fun e w'=>e= .returned (.tuple #[Qi x,.bool true])∧Que w' F g room xs∧Upd F w w':=by
 obtain⟨v,n,ring,fr,h1,h2,h3,h4,h5,h6,h7,h8,h9,kJ⟩:=id h;have hl:0<(x::xs).length:=by simp
 have bC:(x::xs).length=xs.length+1:=rfl;obtain⟨gl,cap,rfl,_,gM⟩:=h5.form (by omega);obtain⟨kk,bJ⟩:∃kk,n=2 ^ kk:=h6.resolve_left (by omega);have nl:=Qh bJ;have c3:=h4.cell 3;have c2:=h4.cell 2;have f3:=h4.free 3;have f2:=h4.free 2;simp only[Qz,Qs]at c2 c3;have gr:=Qh (show(((x::xs).length:Nat):Int)-1=xs.length by rw[bC];omega);have aX:1<=(((x::xs).length:Nat):Int):=by omega
 have aS:(((x::xs).length:Nat):Int)<=131072:=by omega
 clear bJ hl bC;generalize hxl:(((x::xs).length:Nat):Int)=L at c3 gr aX aS;have FR:=Qh hxl;clear hxl;go_enter Tryz.func250,Tryz.ntmps250;go_wp2_with fail;refine(ZvX _ F _ _ _ _ h).mono ?_;rintro e w' ⟨rfl,q,rfl⟩;go_wp2_with fail;refine(Zec _ g _ n cap kk _ _ fr 1 (h4.drewN _) nl.out (by omega) (by omega) (by omega) (by omega)).mono ?_;rintro e w' ⟨rfl,q2,rfl⟩;go_wp2;go_ret2;refine⟨rfl,?_,?_⟩
 ·exact ZuS h4 h5 (h2 gl rfl).2 h1 (h2 gl rfl).1 h3 h6 h7 h8 h9 kJ _ gr.out
 ·exact(((Il F w).drewN _).setCell (p:=⟨g,2,none⟩) (.inl h1) _).setCell (p:=⟨g,3,none⟩) (.inl h1) _
def Zbc(n:Int):Int:=max 0 (min n 65536)
theorem ZoK(k:IntKind){a b:Int}(h:a=b):Ending.returned (.int k a)=Ending.returned (.int k b):=by rw[h]
theorem Ziy(w:I0)(n:Int):CE 185 #[Qi n] w (Qi (Zbc n)):=by
 by_cases h1:n<0
 ·go_enter Tryz.func185,Tryz.ntmps185;go_wp2;go_ret;exact⟨ZoK _ (by unfold Zbc;omega),rfl⟩
 ·by_cases h2:65536<n
  ·go_enter Tryz.func185,Tryz.ntmps185;go_wp2;go_ret;exact⟨ZoK _ (by unfold Zbc;omega),rfl⟩
  ·go_enter Tryz.func185,Tryz.ntmps185;go_wp2;go_ret;exact⟨ZoK _ (by unfold Zbc;omega),rfl⟩
theorem ZvW(w:I0)(n:Int):Calls Tryz.prog 248 #[Qi n] w fun e w'=>∃g,e= .returned (.pointer (some ⟨g,0,none⟩))∧w.heap.size<=g∧Que w' (One g) g (Zbc n) []∧Upd No w w':=by
 go_enter Tryz.func248,Tryz.ntmps248;go_wp2_with fail;refine(Ziy _ _).mono ?_;rintro e w' ⟨rfl,rfl⟩;go_wp2;go_ret;refine⟨_,rfl,Nat.le_refl _,⟨.slice none 0 0,0,[],0,rfl,?_,?_,Im _ _ _,by simpa using Ik _ _ _ _,.inl rfl,by omega,by omega,by simp,by simp⟩,(Il _ _).alloc _⟩
 ·intro k hk;simp[Value.ownBlock]at hk
 ·intro k hk;have:k=w.heap.size:=hk;simp;omega
def Sta(w:I0)(F:Iw)(g:Nat)(room:Int)(xs:Iv):Prop:=
 ∃v,F g∧(∀k,v.ownBlock=some k->F k∧k≠g)∧(∀k,F k->k<w.heap.size)∧
  Blk w g 228 [v,Qi room]∧w.ownsRow 0 3 1 v xs.length (xs.reverse.map (Value.int .i64))
theorem Sta.upd{w w':I0}{F S:Iw}{g:Nat}{room:Int}{xs:Iv}(h:Sta w F g room xs)(k:Upd S w w')(hn:∀i,F i->¬S i):Sta w' F g room xs:=by
 obtain⟨v,h1,h2,h3,h4,h5⟩:=h;exact⟨v,h1,h2,fun i hi=>Gu (h3 i hi) k.size,h4.upd k (hn _ h1),Za h5 k (fun i hi=>hn _ (h2 i hi).1)⟩
theorem Sta.lt{w:I0}{F:Iw}{g:Nat}{room:Int}{xs:Iv}(h:Sta w F g room xs):∀i,F i->i<w.heap.size:=by
 obtain⟨v,h1,h2,h3,_⟩:=h;exact h3
theorem Zx2(w:I0)(n:Int):Calls Tryz.prog 132 #[Qi n] w fun e w'=>∃g,e= .returned (.pointer (some ⟨g,0,none⟩))∧w.heap.size<=g∧Sta w' (One g) g (Zbc n) []∧Upd No w w':=by
 go_enter Tryz.func132,Tryz.ntmps132;go_wp2_with fail;refine(Ziy _ _).mono ?_;rintro e w' ⟨rfl,rfl⟩;go_wp2;go_ret;refine⟨_,rfl,Nat.le_refl _,⟨.slice none 0 0,rfl,?_,?_,Im _ _ _,by simpa using Ik _ _ _ _⟩,(Il _ _).alloc _⟩
 ·intro k hk;simp[Value.ownBlock]at hk
 ·intro k hk;have:k=w.heap.size:=hk;simp;omega
theorem Zx4(w:I0)(F:Iw)(g:Nat)(room:Int)(xs:Iv)(h:Sta w F g room xs):
  CE 276 #[.pointer (some ⟨g,0,none⟩)] w (Qi xs.length):=by
 obtain⟨v,h1,h2,h3,h4,h5⟩:=h;obtain⟨A,c,rfl⟩:=Zaz h5;have c0:=h4.cell 0;simp only[Qz,Qs]at c0;clear h2 h3;go_enter Tryz.func276,Tryz.ntmps276;go_wp2;go_ret;exact⟨rfl,rfl⟩
theorem ZwY(w:I0)(F:Iw)(g:Nat)(room:Int)(xs:Iv)(h:Sta w F g room xs)(hr:0<=room)(fX:room<=65536)(hl:xs.length<=65536):
  Calls Tryz.prog 253 #[.pointer (some ⟨g,0,none⟩)] w fun e w'=>e= .returned (Qi (room-xs.length))∧∃q,w'=w.drewN q:=by
 obtain⟨v,h1,h2,h3,h4,h5⟩:=h;obtain⟨A,c,rfl⟩:=Zaz h5;obtain⟨c0,c1⟩:=h4.c2;clear h2 h3;go_enter Tryz.func253,Tryz.ntmps253;go_wp2
 go_quiet (fail)
 go_wp2;go_ret;exact⟨rfl,_,rfl⟩
/- Rows of places that are set or not (bitrow):words of 64 places. -/
theorem Ziv(n:Nat)(h:n<18446744073709551616):IntKind.u64.wrap (n:Int)=(n:Int):=by
 show(n:Int)%18446744073709551616=n
 omega
theorem Zhm(n:Nat)(h:n<18446744073709551616):(BitVec.ofInt 64 (n:Int)).toNat=n:=by
 rw[BitVec.toNat_ofInt];have:((n:Int)%((2 ^ 64:Nat):Int))=(n:Int):=Int.emod_eq_of_lt (by omega) (by omega);rw[this];omega
theorem Zuk(i:Nat)(h:i<9223372036854775808):bits .and .i64 (i:Int) 63=((i%64:Nat):Int):=by
 have e:bits .and .i64 (i:Int) 63=IntKind.i64.wrap (((BitVec.ofInt 64 (i:Int) &&& BitVec.ofInt 64 63).toNat:Nat):Int):=rfl;rw[e,BitVec.toNat_and,Zhm i (by omega),show(BitVec.ofInt 64 63).toNat=2 ^ 6-1 from rfl,Nat.and_two_pow_sub_one_eq_mod];exact IntWalk.i64_in _ (by have:=Nat.mod_lt i (show 0<2 ^ 6 by decide);omega)
theorem ZxM(x:Nat)(h:x<18446744073709551616):bits .and .u64 (x:Int) 1=((x%2:Nat):Int):=by
 have e:bits .and .u64 (x:Int) 1=IntKind.u64.wrap (((BitVec.ofInt 64 (x:Int) &&& BitVec.ofInt 64 1).toNat:Nat):Int):=rfl;rw[e,BitVec.toNat_and,Zhm x h,show(BitVec.ofInt 64 1).toNat=1 from rfl,Nat.and_one_is_mod];exact Ziv _ (by omega)
theorem ZxX(x y:Nat)(h:x<18446744073709551616)(k:y<18446744073709551616):bits .xor .u64 (x:Int) (y:Int)=((x ^^^ y:Nat):Int):=by
 have e:bits .xor .u64 (x:Int) (y:Int)=IntKind.u64.wrap (((BitVec.ofInt 64 (x:Int) ^^^ BitVec.ofInt 64 (y:Int)).toNat:Nat):Int):=rfl;rw[e,BitVec.toNat_xor,Zhm x h,Zhm y k];exact Ziv _ (Nat.xor_lt_two_pow (n:=64) h k)
def WOk(N:Nat)(S:Nat->Bool)(ws:Iu):Prop:=ws.length=(N+63)/64∧(∀x∈ws,x<18446744073709551616)∧∀i,i<N->(ws.getD (i/64) 0).testBit (i%64)=S i
theorem WOk.at_{N:Nat}{S:Nat->Bool}{ws:Iu}(h:WOk N S ws){i:Nat}(hi:i<N):∃x,ws[i/64]? =some x∧x<18446744073709551616∧x.testBit (i%64)=S i:=by
 obtain⟨h1,h2,h3⟩:=h;have hl:i/64<ws.length:=by omega
 refine⟨ws[i/64],Qg hl,h2 _ (Hg hl),?_⟩;have:=h3 i hi
 rwa [List.getD_eq_getElem?_getD,Qg hl,Option.getD_some]at this
theorem Znc(x k:Nat):x.testBit k=decide (x/2 ^ k%2=1):=by
 rw[Nat.testBit_eq_decide_div_mod_eq]
def ZeG(S:Nat->Bool)(i:Nat)(on:Bool):Nat->Bool:=fun j=>if j=i then on else S j
theorem WOk.turn{N:Nat}{S:Nat->Bool}{ws:Iu}(h:WOk N S ws){i x:Nat}(hi:i<N)(hx:ws[i/64]? =some x):WOk N (ZeG S i (!S i)) (ws.set (i/64) (x ^^^ 2 ^ (i%64))):=by
 obtain⟨h1,h2,h3⟩:=h;have hl:i/64<ws.length:=by omega
 have hm:i%64<64:=Nat.mod_lt _ (by decide);obtain⟨_,tp⟩:=List.getElem?_eq_some_iff.1 hx;have cZ:=h2 x (by rw[<-tp];exact Hg hl);refine⟨by rw[List.length_set];exact h1,fun y hy=>?_,fun j hj=>?_⟩
 ·rcases List.mem_or_eq_of_mem_set hy with hy|rfl
  ·exact h2 y hy
  ·exact Nat.xor_lt_two_pow (n:=64) cZ (Nat.pow_lt_pow_right (by decide) hm)
 ·rw[List.getD_eq_getElem?_getD,List.getElem?_set];unfold ZeG
  by_cases hw:i/64=j/64
  ·rw[if_pos hw,if_pos (by omega),Option.getD_some,Nat.testBit_xor,Nat.testBit_two_pow]
   have hS:x.testBit (j%64)=S j:=by
    have:=h3 j hj
    rwa [List.getD_eq_getElem?_getD,<-hw,hx,Option.getD_some]at this
   rw[hS]
   by_cases e:j=i
   ·subst e;simp
   ·rw[if_neg e,Qf (by omega)];simp
  ·rw[if_neg hw,if_neg (fun e=>hw (by rw[e]))];have:=h3 j hj
   rwa [List.getD_eq_getElem?_getD]at this
def BRow(w:I0)(F:Iw)(g N:Nat)(S:Nat->Bool):Prop:=
 ∃b ws,F g∧F b∧g≠b∧(∀k,F k->k<w.heap.size)∧N<=65536∧Blk w g 231 [Qi N,.slice (some ⟨b,0,none⟩) ws.length ws.length]∧Blk w b 147 (ws.map fun x:Nat=> .int .u64 (x:Int))∧WOk N S ws
theorem BRow.upd{w w':I0}{F T:Iw}{g N:Nat}{S:Nat->Bool}(h:BRow w F g N S)(k:Upd T w w')(hn:∀i,F i->¬T i):BRow w' F g N S:=by
 obtain⟨b,ws,h1,h2,h3,h4,h5,h6,h7,h8⟩:=h;exact⟨b,ws,h1,h2,h3,fun i hi=>Gu (h4 i hi) k.size,h5,h6.upd k (hn _ h1),h7.upd k (hn _ h2),h8⟩
theorem Zys(w:I0)(F:Iw)(g N:Nat)(S:Nat->Bool)(h:BRow w F g N S):CE 257 #[.pointer (some ⟨g,0,none⟩)] w (Qi (N:Int)):=by
 obtain⟨b,ws,_,_,_,_,_,h6,_,_⟩:=h;have c0:=h6.cell 0;simp only[Qz]at c0;clear h6;go_enter Tryz.func257,Tryz.ntmps257;go_wp2;go_ret;exact⟨rfl,rfl⟩
theorem ZrG(w:I0)(F:Iw)(g N:Nat)(S:Nat->Bool)(h:BRow w F g N S)(i:Nat)(hi:i<N):CE 235 #[.pointer (some ⟨g,0,none⟩),Qi (i:Int)] w (.bool true):=by
 have HL:=Qh (Zys w F g N S h);have e1:(0:Int)<=(i:Int):=Qn _;have e2:decide (i<N)=true:=Qt hi;clear h;go_enter Tryz.func235,Tryz.ntmps235;go_wp2_with fail;refine(HL.out).mono ?_;rintro e w1 ⟨rfl,rfl⟩;go_wp2;go_ret;exact⟨rfl,rfl⟩
theorem ZwE(w:I0)(F:Iw)(g N:Nat)(S:Nat->Bool)(h:BRow w F g N S)(i:Nat)(hi:i<N):CE 188 #[.pointer (some ⟨g,0,none⟩),Qi (i:Int)] w (.bool (S i)):=by
 have HT:=Qh (ZrG w F g N S h i hi);obtain⟨b,ws,hg,hb,hne,hlt,hN,h6,h7,h8⟩:=id h;obtain⟨x,hx,cO,ly⟩:=h8.at_ hi;have nH:i/64<ws.length:=(List.getElem?_eq_some_iff.1 hx).1;obtain⟨q,hq⟩:=Qe (i/64);obtain⟨r,hr⟩:=Qe (i%64);have sC:r<64:=by omega
 rw[hq]at hx nH;rw[hr]at ly;have c1:=h6.cell 1;simp only[Qz,Qs]at c1;have k1:w.cell? ⟨b,q,none⟩=some (.int .u64 (x:Int)):=by rw[h7.cell,List.getElem?_map,hx];rfl
 have e6:(i:Int)/64=(q:Int):=by omega
 have e7:bits .and .i64 (i:Int) 63=(r:Int):=by rw[Zuk i (by omega),hr]
 have e8:(0:Int)<=(q:Int):=Qn _;have e9:(q:Int)<(ws.length:Int):=by omega
 have f1:IntKind.u64.wrap (r:Int)=(r:Int):=Ziv _ (by omega);have f0:(0:Int)<=(r:Int):=Qn _;have f64:(r:Int)<=64:=by omega
 obtain⟨y,hy⟩:=Qe (x/2 ^ r);obtain⟨t,ht⟩:=Qe (y%2);have f2:(x:Int)/2 ^ r=(y:Int):=by rw[<-hy,Int.natCast_ediv];simp
 have f3:bits .and .u64 (y:Int) 1=(t:Int):=by rw[ZxM _ (by rw[<-hy];exact Nat.lt_of_le_of_lt (Nat.div_le_self _ _) cO),ht]
 have f4:((t:Int)==1)=S i:=by
  rw[<-ly,Znc,hy,ht]
  by_cases hc:t=1
  ·rw[hc];rfl
  ·rw[Qf hc,beq_eq_false_iff_ne];omega
 obtain⟨v,hv⟩:=Qe (S i);rw[hv]at f4 ⊢;have HI:=Qh hi;clear h h6 h7 h8 hx ly hlt hq hr hy ht hv hi;go_enter Tryz.func188,Tryz.ntmps188;go_wp2_with fail;refine(HT.out).mono ?_;rintro e w1 ⟨rfl,rfl⟩;go_wp2;go_ret;exact⟨rfl,rfl⟩
theorem Zp8{S:Nat->Bool}{i:Nat}:ZeG S i (S i)=S:=by
 funext j
 unfold ZeG
 split
 ·rename_i e;rw[e]
 ·rfl
theorem ZwC(w:I0)(F:Iw)(g N:Nat)(S:Nat->Bool)(h:BRow w F g N S)(i:Nat)(hi:i<N)(on:Bool):Calls Tryz.prog 232 #[.pointer (some ⟨g,0,none⟩),Qi (i:Int),.bool on] w fun e w'=>e= .returned (.bool (S i != on))∧BRow w' F g N (ZeG S i on)∧Upd F w w':=by
 have HT:=Qh (ZrG w F g N S h i hi);have HH:=Qh (ZwE w F g N S h i hi);have HB:=Qh h;obtain⟨v,hv⟩:=Qe (S i);rw[hv]at HH ⊢
 by_cases he:v=on
 ·have HS:=Qh (show BRow w F g N (ZeG S i on) by rw[<-he,<-hv,Zp8];exact h);have h1:(v==on)=true:=by simpa using he
  have h2:(v != on)=false:=by simp[he]
  clear h hv;rw[h2];clear he h2;go_enter Tryz.func232,Tryz.ntmps232;go_wp2_with fail;refine(HT.out).mono ?_;rintro e w1 ⟨rfl,rfl⟩;go_wp2_with fail;refine(HH.out).mono ?_;rintro e w1 ⟨rfl,rfl⟩;go_wp2;go_ret;exact⟨rfl,HS.out,Il _ _⟩
 ·have De:on= !v:=by cases v<;>cases on<;>simp_all
  subst De;have h1:(v== !v)=false:=by cases v<;>rfl
  have h2:(v != !v)=true:=by cases v<;>rfl
  rw[h2];obtain⟨b,ws,hg,hb,hne,hlt,hN,h6,h7,h8⟩:=id h;obtain⟨x,hx,cO,ly⟩:=h8.at_ hi;have nH:i/64<ws.length:=(List.getElem?_eq_some_iff.1 hx).1;obtain⟨q,hq⟩:=Qe (i/64);obtain⟨r,hr⟩:=Qe (i%64);have sC:r<64:=by omega
  rw[hq]at hx nH;rw[hr]at ly;have c1:=h6.cell 1;simp only[Qz,Qs]at c1;have k1:w.cell? ⟨b,q,none⟩=some (.int .u64 (x:Int)):=by rw[h7.cell,List.getElem?_map,hx];rfl
  have e6:(i:Int)/64=(q:Int):=by omega
  have e7:bits .and .i64 (i:Int) 63=(r:Int):=by rw[Zuk i (by omega),hr]
  have e8:(0:Int)<=(q:Int):=Qn _;have e9:(q:Int)<(ws.length:Int):=by omega
  have f1:IntKind.u64.wrap (r:Int)=(r:Int):=Ziv _ (by omega);have f0:(0:Int)<=(r:Int):=Qn _;have f64:(r:Int)<=64:=by omega
  have HW:=Qh (h8.turn hi (x:=x) (by rw[hq];exact hx));rw[hv,hq,hr]at HW;obtain⟨y,hy⟩:=Qe (2 ^ r);have fE:y<18446744073709551616:=by rw[<-hy];exact Nat.pow_lt_pow_right (n:=64) (by decide) sC
  obtain⟨t,ht⟩:=Qe (x ^^^ y)
  have f2:IntKind.u64.wrap (2 ^ r)=(y:Int):=by
   rw[show(2:Int) ^ r=((2 ^ r:Nat):Int) by simp,hy];exact Ziv y fE
  have f3:bits .xor .u64 (x:Int) (y:Int)=(t:Int):=by rw[ZxX _ _ cO fE,ht]
  rw[hy,ht]at HW;have fz:w.frozen? ⟨b,q,none⟩=false:=h7.free q
  have HN:=Qh (show BRow (w.setCell ⟨b,q,none⟩ (.int .u64 (t:Int))) F g N (ZeG S i (!v)) from by
   refine⟨b,ws.set q t,hg,hb,hne,fun k hk=>by rw[World.size_setCell];exact hlt k hk,hN,?_,?_,HW.out⟩
   ·rw[List.length_set];exact h6.upd ((Il (One b) w).setOne q _) (fun e=>hne e)
   ·have:=h7.set_ q (.int .u64 (t:Int))
    rwa [List.map_set])
  have HU:=Qh (show Upd F w (w.setCell ⟨b,q,none⟩ (.int .u64 (t:Int))) from((Il (One b) w).setOne q _).mono (fun i _ e=>e▸hb));clear h h6 h7 h8 hx ly hlt hq hr hy ht hv hi HW;go_enter Tryz.func232,Tryz.ntmps232;go_wp2_with fail;refine(HT.out).mono ?_;rintro e w1 ⟨rfl,rfl⟩;go_wp2_with fail;refine(HH.out).mono ?_;rintro e w1 ⟨rfl,rfl⟩;go_wp2;go_ret;exact⟨rfl,HN.out,HU.out⟩
theorem ZuF:SlT Tryz.prog 229 147 1 8:=SlT.mk_ Tryz.underlying229 (z:= .int .u64 0) (by kernel_rfl) rfl (by omega)
def Zhf(m:Nat):Io:=(List.replicate m (Value.int .u64 0)).toArray
theorem ZsS(m:Nat)(hm:m<=100000)(W:I0):(Instr.makeSlice 229 (Qi (m:Int)) (Qi (m:Int))).run Tryz.prog W= .ok (.slice (some ⟨W.heap.size,0,none⟩) m m) (W.alloc (.cells (Zhf m) 147)):=by
 have:Zhf m=madeCells #[Value.int .u64 0] (m*1):=by
  unfold Zhf
  apply Array.ext
  ·simp[madeCells]
  ·intro i h1 h2;simp[madeCells,Nat.mod_one]
 rw[this];exact Zfz W ZuF (z:= .int .u64 0) (by kernel_rfl) m (by omega) (by omega)
theorem Zyr(w:I0)(N:Nat)(hN:N<=65536):Calls Tryz.prog 133 #[Qi (N:Int)] w fun e w'=>∃g,e= .returned (.pointer (some ⟨g,0,none⟩))∧w.heap.size<=g∧BRow w' (fun i=>w.heap.size<=i∧i<w'.heap.size) g N (fun _=>false)∧Upd No w w':=by
 obtain⟨m,hm⟩:=Qe ((N+63)/64);have e1:max (N:Int) 0=(N:Int):=by omega
 have e2:min (N:Int) 65536=(N:Int):=by omega
 have e3:IntKind.i64.wrap ((N:Int)+63)=(N:Int)+63:=IntWalk.i64_in _ (by omega);have e4:((N:Int)+63)/64=(m:Int):=by omega
 have hmk:=fun W=>ZsS m (by omega) W
 have HM:=Qh hm;have HN:=Qh hN;clear hm hN;go_enter Tryz.func133,Tryz.ntmps133;go_wp2;go_ret;refine⟨w.heap.size+1,rfl,by omega,⟨w.heap.size,List.replicate m 0,⟨by omega,by simp⟩,⟨by omega,by simp;omega⟩,by omega,fun k hk=>hk.2,HN.out,?_,?_,?_⟩,((Il _ _).alloc _).alloc _⟩
 ·rw[List.length_replicate];have:=Im (w.alloc (.cells (Zhf m) 147)) 231 [Qi (N:Int),.slice (some ⟨w.heap.size,0,none⟩) m m]
  simpa using this
 ·have:=(Im w 147 (List.replicate m (Value.int .u64 0))).alloc (.cells #[Qi (N:Int),.slice (some ⟨w.heap.size,0,none⟩) m m] 231);rw[List.map_replicate];exact this
 ·refine⟨by rw[List.length_replicate];exact HM.out.symm,fun x hx=>?_,fun i hi=>?_⟩
  ·rw[List.mem_replicate]at hx;omega
  ·rw[List.getD_eq_getElem?_getD,List.getElem?_replicate]
   split<;>simp
/- Stacks:a number put on top,and taken;the document's answer. -/
theorem ZuU{w:I0}{base:Nat}{e:Iy}{A:OA}{c n:Nat}{xs:Ip}{x:Iz}(h:w.ownsRow base e 1 (.slice A (n+1) c) (n+1) (xs++[x])):
  w.ownsRow base e 1 (.slice A n c) n xs:=by
 rcases h.2 with ⟨h',_⟩|⟨g,cap,cur,hv,hb,hg,bG,eK,cf,bj⟩
 ·simp at h'
 ·simp only[Value.slice.injEq]at hv;obtain⟨rfl,_,rfl⟩:=hv;have hl:=h.1;simp at hl;refine⟨by omega,.inr ⟨g,_,cur,rfl,hb,hg,by omega,eK,cf,?_⟩⟩;have:=congrArg (List.take n) bj;rw[List.take_take]at this;rw[show n*1=min n ((n+1)*1) by omega,this,Gc (by omega),List.take_of_length_le (by omega)]
theorem ZoE{P:Ix}{t e:Iy}{size bytes:Nat}(W:I0)(hT:SlT P t e size bytes)(A:OA)(len cap h:Nat)(h1:h<=cap):
  (Instr.slice t (.slice A len cap) none (some (Qi h)) none).run P W= .ok (.slice A h cap) W:=by
 have e:Zd1 A cap 0 size=A:=by
  unfold Zd1
  split
  ·rfl
  ·cases A<;>simp[Addr.add]
 rw[ZbZ W hT A len cap h h1,e]
theorem Zx8(w:I0)(g:Nat)(v:Iz)(n:Nat)(room:Iz)(l:Ip)(x:Int)(hb:Blk w g 228 [v,room])(ho:w.ownsRow 0 3 1 v n l)(hv:∀k,v.ownBlock=some k->k≠g)(hn:n<=131072):
  Calls Tryz.prog 254 #[.pointer (some ⟨g,0,none⟩),Qi x] w fun e w'=>e= .returned (.tuple #[])∧∃v',Blk w' g 228 [v',room]∧w'.ownsRow 0 3 1 v' (n+1) (l++[Qi x])∧
   (v'.ownBlock=v.ownBlock∨∃k,v'.ownBlock=some k∧w.heap.size<=k)∧(∀k,v'.ownBlock=some k->k≠g∧k<w'.heap.size)∧Upd (fun i=>i=g∨Own v i) w w':=by
 obtain⟨A,c,rfl⟩:=Zaz ho;have c0:=hb.cell 0;have f0:=hb.free 0;simp only[Qz]at c0;have d7:=hb.lt;have hne:=World.new_ne w _ c0;go_enter Tryz.func254,Tryz.ntmps254;go_wp2_with (at_builtin;refine ZbG rfl rfl Zgv (v:= .slice A n c) (by rfl) rfl ho rfl rfl (by omega) (by omega) (by omega) ?_;intro g' c' w1 aM eV gT ji;have jy:g'≠g:=(by rcases gT with e|e;exact hv g' e;omega);have aX:=hb.upd eV (fun e=>hv g e rfl);have d0:=aX.cell 0;have f1:=aX.free 0;simp only[Qz]at d0);refine bodyPost_end (results_none rfl _ _ _) rfl ⟨rfl,_,by simpa using aX.set_ 0 (.slice (some ⟨g',0,none⟩) (n+1) c'),Za aM ((Il (One g) _).setOne 0 _) (fun i hi e=>?_),?_,fun k hk=>?_,?_⟩
 ·have e1:g'=i:=by simpa[Value.ownBlock]using hi
  have e2:i=g:=e;omega
 ·rcases gT with e|e
  ·exact .inl e.symm
  ·exact .inr ⟨g',rfl,e⟩
 ·have e1:g'=k:=by simpa[Value.ownBlock]using hk
  subst e1;exact⟨jy,by simpa[World.setCell]using ji⟩
 ·exact(eV.mono (fun i _ e=> .inr e)).setCell (p:=⟨g,0,none⟩) (.inl (.inl rfl)) _
theorem Zw8(w:I0)(g:Nat)(A:OA)(n c:Nat)(room:Iz)(hb:Blk w g 228 [.slice A (n+1) c,room])(hc:n+1<=c)(hn:n<=131072):
  Calls Tryz.prog 256 #[.pointer (some ⟨g,0,none⟩)] w fun e w'=>e= .returned (.tuple #[])∧Blk w' g 228 [.slice A n c,room]∧Upd (One g) w w':=by
 have c0:=hb.cell 0;have f0:=hb.free 0;simp only[Qz]at c0;have d7:=hb.lt;have iJ:(0:Int)<=(n:Int):=Qn _;have hn1:(n:Int)<=(c:Int):=by omega
 have hw:IntKind.i64.wrap (n:Int)=(n:Int):=IntWalk.i64_in _ (by omega);have hk:=fun W=>ZoE W Zgv A (n+1) c n (by omega)
 go_enter Tryz.func256,Tryz.ntmps256;go_region;refine bodyPost_end (results_none rfl _ _ _) rfl ⟨rfl,?_,((Il _ _).setOne 0 _).drew⟩;exact(by simpa using hb.set_ 0 (.slice A n c):Blk (w.setCell ⟨g,0,none⟩ (.slice A n c)) g 228 [.slice A n c,room])
theorem ZwZ(w:I0)(F:Iw)(g:Nat)(room:Int)(xs:Iv)(x:Int)(h:Sta w F g room xs)(hr:0<=room)(fX:room<=65536)(hf:(xs.length:Int)<room):
  Calls Tryz.prog 231 #[.pointer (some ⟨g,0,none⟩),Qi x] w fun e w'=>e= .returned (Qi 0)∧
   ∃F',(∀i,F' i->F i∨w.heap.size<=i)∧Sta w' F' g room (x::xs)∧Upd F w w':=by
 have hz:(room-(xs.length:Int)==0)=false:=by rw[beq_eq_false_iff_ne];omega
 obtain⟨v,h1,h2,h3,h4,h5⟩:=id h;go_enter Tryz.func231,Tryz.ntmps231;go_wp2_with fail;refine(ZwY _ F _ _ _ h hr fX (by omega)).mono ?_;rintro e w' ⟨rfl,q,rfl⟩;go_wp2_with fail;refine(Zx8 _ g v xs.length _ _ _ (h4.drewN _) h5 (fun k hk=>(h2 k hk).2) (by omega)).mono ?_;rintro e w1 ⟨rfl,v',aX,cn,dN,hk1,hu1⟩;go_wp2;go_ret;refine⟨rfl,fun i=>i=g∨v'.ownBlock=some i,?_,⟨v',.inl rfl,fun k hk=>⟨.inr hk,(hk1 k hk).1⟩,?_,aX,?_⟩,hu1.of_drewN.mono ?_⟩
 ·rintro i (rfl|hi)
  ·exact .inl h1
  ·rcases dN with e|⟨k,e,hk⟩
   ·exact .inl (h2 i (by rw[<-e];exact hi)).1
   ·rw[e]at hi
    cases hi
    exact .inr hk
 ·rintro k (rfl|hk)
  ·exact aX.lt
  ·exact(hk1 k hk).2
 ·simpa using cn
 ·rintro i _ (rfl|e)
  ·exact h1
  ·exact(h2 i e).1
theorem ZvT(w:I0)(F:Iw)(g:Nat)(room:Int)(x:Int)(xs:Iv)(h:Sta w F g room (x::xs))(hl:xs.length<=65536):
  Calls Tryz.prog 255 #[.pointer (some ⟨g,0,none⟩)] w fun e w'=>e= .returned (.tuple #[Qi x,.bool true])∧∃q,w'=w.drewN q:=by
 obtain⟨v,h1,h2,h3,h4,h5⟩:=id h;have hz:((((x::xs).length:Nat):Int)==0)=false:=by rw[beq_eq_false_iff_ne];simp only[G1];omega
 obtain⟨gl,cap,rfl,_,gM⟩:=h5.form (by simp);have hle:(((x::xs).length:Nat):Int)=(xs.length:Int)+1:=by simp
 have cr:w.cell? ⟨gl,xs.length,none⟩=some (Qi x):=by
  rw[h5.cellAt _ (by simp)];simp
 have c0:=h4.cell 0;simp only[Qz]at c0;have pG:(0:Int)<=(xs.length:Int):=Qn _;have hi1:(xs.length:Int)<(xs.length:Int)+1:=by omega
 have hw:IntKind.i64.wrap (xs.length:Int)=xs.length:=IntWalk.i64_in _ (by omega);go_enter Tryz.func255,Tryz.ntmps255;go_wp2_with fail;refine(Zx4 _ F _ _ _ h).mono ?_;rintro e w' ⟨rfl,rfl⟩;clear h2 h3;go_wp2
 go_quiet (fail)
 go_wp2;go_ret2;exact⟨rfl,_,rfl⟩
/- Stacks:taken,and listed;what the document says of one more;whether two lists are the same. -/
theorem Zx1(w:I0)(F:Iw)(g:Nat)(room:Int)(x:Int)(xs:Iv)(h:Sta w F g room (x::xs))(hl:xs.length<=65536):
  Calls Tryz.prog 233 #[.pointer (some ⟨g,0,none⟩)] w fun e w'=>e= .returned (.tuple #[Qi x,.bool true])∧Sta w' F g room xs∧Upd F w w':=by
 obtain⟨v,h1,h2,h3,h4,h5⟩:=id h;obtain⟨A,c,rfl⟩:=Zaz h5
 have hc:xs.length+1<=c:=by
  rcases h5.2 with ⟨h',_⟩|⟨g',cap,cur,hv,_,_,bG,_⟩
  ·simp at h'
  ·simp only[Value.slice.injEq]at hv;obtain⟨_,_,rfl⟩:=hv
   simpa using bG
 have hb:Blk w g 228 [.slice A (xs.length+1) c,Qi room]:=h4;go_enter Tryz.func233,Tryz.ntmps233;go_wp2_with fail;refine(ZvT _ F _ _ _ _ h hl).mono ?_;rintro e w' ⟨rfl,q,rfl⟩;go_wp2_with fail;refine(Zw8 _ g A xs.length c _ (hb.drewN _) hc (by omega)).mono ?_;rintro e w1 ⟨rfl,aX,hu1⟩;go_wp2;go_ret2;have hu:=hu1.of_drewN;refine⟨rfl,⟨.slice A xs.length c,h1,fun k hk=>h2 k (by cases A<;>first|exact hk|(simp[Value.ownBlock]at hk)),fun k hk=>Gu (h3 k hk) hu.size,aX,?_⟩,hu.mono fun i _ e=>by have:i=g:=e;exact this▸h1⟩;have:=Za h5 hu (fun i hi e=>(h2 i hi).2 e);rw[List.reverse_cons,Hu]at this;exact ZuU this
