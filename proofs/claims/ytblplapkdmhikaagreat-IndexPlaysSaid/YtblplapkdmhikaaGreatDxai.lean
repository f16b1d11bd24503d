/- When two lists of numbers are one, by the document. -/
import Derived.Test.YtblplapkdmhikaaGreatProg
import Derived.Deep.RegionHeld3
import Derived.Deep.AppendLies
import Derived.Test.YtblplapkdmhikaaGreatDxaf
namespace Go.Proofs.YtblplapkdmhikaaGreat
set_option linter.unusedVariables false
set_option linter.unusedSimpArgs false
section
open Go.RowKit
theorem ZkF (w:World) (F G:Nat→Prop) (A B:Option Addr) (c d:Nat) (xs ys:List Int) (hx:Ints F w A xs) (hy:Ints G w B ys) (hl:xs.length≤1048576) (hl2:ys.length≤1048576):
  Calls Tryz.prog 104 #[.slice A xs.length c,.slice B ys.length d] w fun e w'=>e= .returned (.bool (xs==ys))∧Upd No w w':=by
 by_cases hne:xs.length=ys.length
 ·have hb:((xs.length:Int) != (ys.length:Int))=false:=by rw[hne];simp
  go_enter Tryz.func104,Tryz.ntmps104
  have Hne:=Qh hne;clear hne;go_wp2
  go_loopg [5,13] xs.length (fun gk j i wr=>∃k:Nat,k+gk=xs.length∧i= .int .i64 k∧xs.take k=ys.take k∧Upd No w wr)
  case atStart=>exact⟨0,by omega,rfl,by simp,Upd.refl _ _⟩
  case round=>
   obtain⟨k,hgk,rfl,hs,hu⟩:=hrel;have Hs:=Qh hs;clear hs
   by_cases hlt:k<xs.length
   ·have hlt2:k<ys.length:=by have:=Hne.out;omega
    obtain⟨ax,rfl,_,_,hcx⟩:=(hx.upd hu (fun _ _=>id)).at_ hlt;obtain⟨ay,rfl,_,_,hcy⟩:=(hy.upd hu (fun _ _=>id)).at_ hlt2;have b1:(0:Int)≤(k:Int):=Qn _;have b2:(k:Int)<(xs.length:Int):=by omega
    have b3:(k:Int)<(ys.length:Int):=by omega
    by_cases he:xs[k]=ys[k]
    ·have heb:(xs[k] != ys[k])=false:=by rw[he];simp
     have He:=Qh he;clear he;go_wp2
     go_quiet (fail)
     go_wp2
     go_roundg (gk-1)
     case measure=>omega
     case rel=>
      refine⟨k+1,by omega,by go_num,?_,hu.drewN _⟩;rw[List.take_succ_eq_append_getElem hlt,List.take_succ_eq_append_getElem hlt2,Hs.out,He.out]
    ·have heb:(xs[k] != ys[k])=true:=by simpa using he
     have He:=Qh he;clear he;go_wp2
     go_quiet (fail)
     go_wp2
     go_ret
     have hne2:(xs==ys)=false:=by
      rw[beq_eq_false_iff_ne];rintro rfl;exact He.out rfl
     exact⟨by rw[hne2];rfl,hu.drewN _⟩
   ·obtain rfl:k=xs.length:=by omega
    go_wp2
    go_ret
    have h2:=Hs.out;rw[List.take_length,Hne.out,List.take_length]at h2;exact⟨by rw[h2,beq_self_eq_true];rfl,hu⟩
 ·have hb:((xs.length:Int) != (ys.length:Int))=true:=by rw[bne_iff_ne];omega
  have hf:(xs==ys)=false:=by rw[beq_eq_false_iff_ne];rintro rfl;exact hne rfl
  have Hf:=Qh hf;clear hf
  go_enter Tryz.func104,Tryz.ntmps104
  go_wp2
  go_ret
  exact⟨by rw[Hf.out];rfl,Upd.refl _ _⟩
end
/- Queues and stacks:what they are in memory,and walks of the calls that only look. -/
section
open Go.RowKit
theorem ZgU:SlT Tryz.prog 64 3 1 8:=SlT.mk_ Tryz.underlying64 (z:= .int .i64 0) (by kernel_rfl) rfl (by omega)
def Pow (n:Nat):Prop:=n=0∨∃k,n=2 ^ k
def ZG (from_ i n:Nat):Nat:=(from_+i)%n
def grow (n:Nat):Nat:=if n=0 then 1 else 2*n
theorem Ziz (n:Nat):(if 1<(n:Int)*2 then (n:Int)*2 else 1)=((grow n:Nat):Int):=by
 unfold grow
 split<;>split<;>omega
theorem ZjI (n:Nat):1≤grow n∧grow n≤2*n+1∧n<grow n:=by unfold grow;split<;>omega
theorem Zfs {n:Nat} (h:Pow n):∃k,grow n=2 ^ k:=by
 unfold grow;rcases h with rfl|⟨k,rfl⟩
 ·exact⟨0,by simp⟩
 ·exact⟨k+1,by have:=Nat.one_le_two_pow (n:=k);rw[if_neg (by omega),Nat.pow_succ];omega⟩
theorem ZcK (w:World) (g:Nat) (A:Option Addr) (n c k:Nat) (room cnt:Value) (fr:Nat) (i:Int) (hb:Blk w g 401 [room,.slice A n c,.int .u64 fr,cnt])
  (hn:n=2 ^ k) (hs:n≤1048576) (hi:0≤i) (hi2:i≤1048576) (hf:fr≤1048576):
  Calls Tryz.prog 359 #[.pointer (some ⟨g,0,none⟩),.int .i64 i] w fun e w'=>e= .returned (.int .u64 (ZG fr i.toNat n:Nat))∧∃q,w'=w.drewN q:=by
 have c1:=hb.cell 1;have c2:=hb.cell 2;simp only[Qz,Qs]at c1 c2;have hn0:1≤n:=by rw[hn];exact Nat.one_le_two_pow
 obtain⟨j,rfl⟩:=Int.eq_ofNat_of_zero_le hi
 have hbits:bits .and .u64 ((fr:Int)+j) ((n:Int)-1)=((ZG fr j n:Nat):Int):=by
  have h1:=u64_and_nat (fr+j) (n-1) (by omega) (by omega);rw[show((fr:Int)+j)=((fr+j:Nat):Int) by omega,show((n:Int)-1)=((n-1:Nat):Int) by omega,h1];unfold ZG;rw[hn,Nat.and_two_pow_sub_one_eq_mod]
 have Hb:=Qh hbits;have Hn:=Qh hn;clear hbits hn
 go_enter Tryz.func359,Tryz.ntmps359
 go_wp2
 go_quiet (fail)
 go_wp2
 go_ret
 exact⟨by rw[Hb.out];rfl,_,rfl⟩
def Que (w:World) (F:Nat→Prop) (g:Nat) (room:Int) (xs:List Int):Prop:=
 ∃(v:Value) (n:Nat) (ring:List Int) (fr:Nat),F g∧(∀k,v.ownBlock=some k→F k∧k≠g)∧(∀k,F k→k<w.heap.size)∧
  Blk w g 401 [.int .i64 room,v,.int .u64 ((fr:Nat):Int),.int .i64 xs.length]∧w.ownsRow 0 3 1 v n (ring.map (Value.int .i64))∧
  Pow n∧n≤131072∧fr≤n∧xs.length≤n∧∀i v,xs[i]? =some v→ring[ZG fr i n]? =some v
namespace Que
variable {w w':World} {F S:Nat→Prop} {g:Nat} {room:Int} {xs:List Int}
theorem upd (h:Que w F g room xs) (k:Upd S w w') (hn:∀i,F i→¬S i):Que w' F g room xs:=by
 obtain⟨v,n,ring,fr,h1,h2,h3,h4,h5,h6⟩:=h;exact⟨v,n,ring,fr,h1,h2,fun i hi=>Nat.lt_of_lt_of_le (h3 i hi) k.size,h4.upd k (hn _ h1),Zb h5 k (fun i hi=>hn _ (h2 i hi).1),h6⟩
theorem lt (h:Que w F g room xs):∀i,F i→i<w.heap.size:=by
 obtain⟨v,n,ring,fr,h1,h2,h3,_⟩:=h;exact h3
end Que
theorem Zi9 {fr i j n:Nat} (hij:i<j) (hj:j<n):ZG fr i n≠ZG fr j n:=fun e=>by
 unfold ZG at e;have h:=Nat.sub_mod_eq_zero_of_mod_eq e.symm;rw[show fr+j-(fr+i)=j-i by omega,Nat.mod_eq_of_lt (by omega)]at h;omega
theorem ZdS {fr i n:Nat} (h:0<n):ZG fr i n<n:=Nat.mod_lt _ h
theorem Zht (n:Nat):(madeCells #[Value.int .i64 0] n).toList=(List.replicate n (0:Int)).map (Value.int .i64):=by
 apply List.ext_getElem
 ·simp[madeCells]
 ·intro i h1 h2;simp[madeCells,Nat.mod_one]
theorem Zf7 {W:World} {F:Nat→Prop} {g gl n c fr:Nat} {room:Int} {xs ring:List Int} (x:Int)
  (hb:Blk W g 401 [.int .i64 room,.slice (some ⟨gl,0,none⟩) n c,.int .u64 ((fr:Nat):Int),.int .i64 xs.length])
  (ho:W.ownsRow 0 3 1 (.slice (some ⟨gl,0,none⟩) n c) n (ring.map (Value.int .i64))) (hne:gl≠g) (hF:F g) (hF2:F gl) (hF3:∀k,F k→k<W.heap.size)
  (hp:Pow n) (hn:n≤131072) (hfr:fr≤n) (hl:xs.length<n) (hr:∀i v,xs[i]? =some v→ring[ZG fr i n]? =some v):
  Que ((W.setCell ⟨gl,ZG fr xs.length n,none⟩ (.int .i64 x)).setCell ⟨g,3,none⟩ (.int .i64 ((xs.length:Int)+1))) F g room (xs++[x]):=by
 have hrl:ring.length=n:=by have:=ho.1;simpa using this
 have hsl:ZG fr xs.length n<n:=ZdS (by omega);have ho2:=(ho.stored (ZG fr xs.length n) (.int .i64 x)).1
 have ho3:=Zb ho2 (((Upd.refl (One g) _).setOne 3 (.int .i64 ((xs.length:Int)+1)))) (fun i hi e=>by
  have e1:gl=i:=by simpa[Value.ownBlock]using hi
  have e2:i=g:=e;omega)
 refine⟨.slice (some ⟨gl,0,none⟩) n c,n,ring.set (ZG fr xs.length n) x,fr,hF,?_,?_,?_,?_,hp,hn,hfr,by simp;omega,?_⟩
 ·intro k hk;have e1:gl=k:=by simpa[Value.ownBlock]using hk
  exact⟨e1▸hF2,by omega⟩
 ·intro k hk;simpa[World.setCell]using hF3 k hk
 ·have:=(hb.far (p:=⟨gl,ZG fr xs.length n,none⟩) (Ne.symm hne) (.int .i64 x)).set_ 3 (.int .i64 ((xs.length:Int)+1))
  simpa using this
 ·rw[List.map_set];exact ho3
 ·intro i v hi;rw[List.getElem?_append]at hi
  split at hi
  ·rename_i hil
   rw[List.getElem?_set_ne (Ne.symm (Zi9 hil hl))];exact hr i v hi
  ·have hi0:i=xs.length:=by
    have:=(List.getElem?_eq_some_iff.1 hi).1;simp at this;omega
   subst hi0;simp at hi;subst hi;rw[List.getElem?_set_self (by omega)]
theorem Zk3 (w:World) (F:Nat→Prop) (g:Nat) (room:Int) (xs:List Int) (h:Que w F g room xs):
  Calls Tryz.prog 368 #[.pointer (some ⟨g,0,none⟩)] w fun e w'=>e= .returned (.int .i64 xs.length)∧w=w':=by
 obtain⟨v,n,ring,fr,h1,h2,h3,h4,h5,h6⟩:=h;have c3:=h4.cell 3;simp only[Qz,Qs]at c3;clear h2 h3 h6
 go_enter Tryz.func368,Tryz.ntmps368
 go_wp2
 go_ret
 exact⟨rfl,rfl⟩
theorem ZkJ (w:World) (F:Nat→Prop) (g:Nat) (room:Int) (xs:List Int) (h:Que w F g room xs) (hr:0≤room) (hr2:room≤65536):
  Calls Tryz.prog 357 #[.pointer (some ⟨g,0,none⟩)] w fun e w'=>e= .returned (.int .i64 (room-xs.length))∧∃q,w'=w.drewN q:=by
 obtain⟨v,n,ring,fr,h1,h2,h3,h4,h5,h6,h7,h8,h9,_⟩:=h;have c3:=h4.cell 3;have c0:=h4.cell 0;simp only[Qz,Qs]at c3 c0;clear h2 h3 h6
 go_enter Tryz.func357,Tryz.ntmps357
 go_wp2
 go_quiet (fail)
 go_wp2
 go_ret
 exact⟨rfl,_,rfl⟩
set_option maxHeartbeats 1000000 in
set_option maxRecDepth 100000 in
theorem ZkK (w:World) (F:Nat→Prop) (g:Nat) (room:Int) (xs:List Int) (h:Que w F g room xs):
  Calls Tryz.prog 358 #[.pointer (some ⟨g,0,none⟩)] w fun e w'=>∃A c,e= .returned (.slice A xs.length c)∧Ints (fun i=>w.heap.size≤i) w' A xs∧Upd No w w':=by
 go_enter Tryz.func358,Tryz.ntmps358
 go_wp2_with fail
 refine(Zk3 _ F _ _ _ h).mono ?_;rintro e w' ⟨rfl,rfl⟩;go_wp2;have hlen:xs.length≤131072:=by obtain⟨v,n,ring,fr,_,_,_,_,_,_,h7,_,h9,_⟩:=h;omega
 go_loopg [3,4,7] xs.length (fun gk l j i wr=>∃k:Nat,k+gk=xs.length∧i= .int .i64 k∧wr.ownsRow w.heap.size 3 1 l k ((xs.take k).map (Value.int .i64))∧Upd No w wr)
 case atStart=>exact⟨0,by omega,rfl,by simpa using World.ownsRow_nil _ _ _ _,Upd.refl _ _⟩
 case round=>
  obtain⟨k,hgk,rfl,hor,hur⟩:=hrel;have hsz:=hur.size
  by_cases hlt:k<xs.length
  ·obtain⟨v,n,ring,fr,h1,h2,h3,h4,h5,h6,h7,h8,h9,h10⟩:=h.upd hur (fun _ _=>id);obtain⟨gl,cap,rfl,hbl,hll⟩:=h5.form (by omega);have hgl:=h2 gl rfl;have hx:xs[k]? =some xs[k]:=Qg hlt;have hr:=h10 k xs[k] hx;have hrl:=(List.getElem?_eq_some_iff.1 hr).1;have hcell:=h5.cells (g:=gl) rfl (ZG fr k n) (.int .i64 xs[k]) (by rw[List.getElem?_map,hr];rfl);have hfl:=h.lt g h1;have hfl2:=h.lt gl hgl.1;have c1:=h4.cell 1;simp only[Qz,Qs]at c1;rcases h6 with h6|⟨kk,h6⟩
   ·omega
   have Hx:=Qh hx;have Hr:=Qh hr;have H6:=Qh h6;have e1:(⟨gl,0,none⟩:Addr).add (ZG fr k n)=⟨gl,ZG fr k n,none⟩:=by unfold Addr.add;split<;>simp_all
   rw[e1]at hcell;clear hx hr h6 h10 h2 h3 e1;have hsp:((ZG fr k n:Nat):Int)<(n:Int):=by have:=Nat.mod_lt (fr+k) (show 0<n by omega);unfold ZG;omega
   have hsp0:(0:Int)≤((ZG fr k n:Nat):Int):=Qn _;have hno:∀i,Own u3 i→w.heap.size≤i:=fun i e=>(hor.lt i e).1
   go_wp2
   go_region_held3 (fun w'=>Blk w' g 401 [.int .i64 room,.slice (some ⟨gl,0,none⟩) n cap,.int .u64 (fr:Int),.int .i64 xs.length]∧w'.cell? ⟨g,1,none⟩=some (.slice (some ⟨gl,0,none⟩) n cap)∧w'.cell? ⟨gl,ZG fr k n,none⟩=some (.int .i64 xs[k]))
    (first|exact⟨h4,c1,hcell⟩|(go_split_ands;refine⟨?_,?_,?_⟩<;>first|assumption|(apply Blk.alloc;assumption)|(apply Blk.drew;assumption)|(exact Blk.upd (by assumption) hupd1 (fun e=>by have:=hno _ e;omega))|(exact hupd1.keep (by assumption) (fun e=>by have:=hno _ e;simp at this;omega))|go_keep)) (first|(refine Zg7 (by rfl) (by rfl) ZgU (by rfl) (by rfl) (by exact hor.alloc _) rfl (by exact Zfd) (by rfl) (by omega) (by omega) (by exact(Upd.refl No w |>.trans hur |>.alloc _).size) ?_;intro gn capn w1 hown1 hupd1 hgrew1 hlt1)|(go_at_call 359;refine(ZcK _ g _ n cap kk _ _ fr _ (by assumption) H6.out (by omega) (by omega) (by omega) (by omega)).mono ?_;rintro e w' ⟨rfl,q,rfl⟩))
   go_wp2
   go_roundg (gk-1)
   case measure=>omega
   case rel=>
    refine⟨k+1,by omega,by go_num,?_,(hur.alloc _).trans_ (hupd1.of_drewN) (fun i hi e=>by have:=hno _ e;omega)⟩;rw[List.take_succ_eq_append_getElem hlt,List.map_append];exact hown1
  ·obtain rfl:k=xs.length:=by omega
   obtain⟨A,c,rfl⟩:=Zbe hor;have hx:=Ints.of_own hor;rw[List.take_length]at hx;go_wp2
   go_ret
   exact⟨A,c,rfl,hx,hur⟩
end
/- Queues:a number is put in. -/
section
open Go.RowKit
set_option maxRecDepth 100000 in
theorem ZiN (w:World) (F:Nat→Prop) (g:Nat) (room:Int) (xs:List Int) (x:Int) (h:Que w F g room xs) (hr:0≤room) (hr2:room≤65536) (hf:(xs.length:Int)<room):
  Calls Tryz.prog 334 #[.pointer (some ⟨g,0,none⟩),.int .i64 x] w fun e w'=>e= .returned (.int .i64 0)∧
   ∃F',(∀i,F' i→F i∨w.heap.size≤i)∧Que w' F' g room (xs++[x])∧Upd F w w':=by
 have hz:(room-(xs.length:Int)==0)=false:=by rw[beq_eq_false_iff_ne];omega
 go_enter Tryz.func334,Tryz.ntmps334
 go_wp2_with fail
 refine(ZkJ _ F _ _ _ h hr hr2).mono ?_;rintro e w' ⟨rfl,q,rfl⟩;obtain⟨v,n,ring,fr,h1,h2,h3,h4,h5,h6,h7,h8,h9,h10⟩:=id h;obtain⟨A,c,rfl⟩:=Zbe h5;have c1:=h4.cell 1;have c3:=h4.cell 3;simp only[Qz,Qs]at c1 c3
 by_cases hful:xs.length=n
 ·have hbf:((xs.length:Int)==(n:Int))=true:=by rw[beq_iff_eq];omega
  have Hful:=Qh hful;clear hful;go_wp2
  go_quiet (fail)
  go_wp2_with fail
  refine(ZkK _ F _ _ _ (h.upd ((Upd.refl No w).drewN _) (fun _ _=>id))).mono ?_;rintro e w2 ⟨A2,cc2,rfl,hx2,hu2⟩;have hu2':Upd No w w2:=hu2.of_drewN;have hsz2':=hu2'.size
  replace hx2:Ints (fun i=>w.heap.size≤i) w2 A2 xs:=hx2
  have hb2:=h4.upd hu2' id;have d0:=hb2.cell 0;have d1:=hb2.cell 1;have d2:=hb2.cell 2;have d3:=hb2.cell 3;have f1:=hb2.free 1;have f2:=hb2.free 2;simp only[Qz,Qs]at d0 d1 d2 d3;clear c1 c3;have hg:=ZjI xs.length;have hM:=Ziz xs.length;have hmk:=fun W=>Zka W ZgU (z:= .int .i64 0) (by kernel_rfl) (grow xs.length) (by omega) (by omega)
  have hgl2:=hb2.lt;have hne1:=World.new_ne w2 _ d1;have hlm:(madeCells #[Value.int .i64 0] (grow xs.length)).toList.length=grow xs.length:=by simp[madeCells]
  have Hlm:=Qh hlm;clear hlm;have hgw:g<w.heap.size:=h4.lt
  go_upto_region 6 with (fail)
  iterate 16 go_step
  refine ZkQ rfl rfl ZgU rfl rfl (dc:=(madeCells #[.int .i64 0] (grow xs.length)).toList) (sc:=xs.map (Value.int .i64)) (t:=3) (by exact Blk.new_at (by simp)) (by rw[Hlm.out];omega) (by simp) (by omega) (by exact((hx2.upd (((Upd.refl (One g) w2).setOne _ _).setOne _ _ |>.alloc _) (fun i hi e=>by have:i=g:=e;omega))).vals) (Ints.one_ xs) ?_;intro w3 hb3 hu3;simp only[Act.put,List.setIfInBounds_toArray,List.set_cons_succ,List.set_cons_zero];have hbx:=((((hb2.set_ 1 (.slice (some ⟨w2.heap.size,0,none⟩) (grow xs.length) (grow xs.length))).set_ 2 (.int .u64 0)).alloc (.cells (madeCells #[.int .i64 0] (grow xs.length)) 3)).upd hu3 (fun e=>by have:g=w2.heap.size:=e;omega));simp only[List.set_cons_zero,List.set_cons_succ]at hbx;have hu3':Upd (One g) w w3:=(((((Upd.refl (One g) w2).setOne 1 _).setOne 2 _).alloc _).trans_ hu3 (fun i hi e=>by have:i=w2.heap.size:=e;omega)) |> fun k=>(hu2'.mono (fun _ _ e=>e.elim)).trans k
  clear hb2 d0 d1 d2 d3 f1 f2 hu3 hu2' hu2 hmk hM hx2 h4 h5;have c1:=hbx.cell 1;have c3:=hbx.cell 3;have f3:=hbx.free 3;simp only[Qz,Qs]at c1 c3;have h6':=h6;rw[←Hful.out]at h6';have hsz2:w.heap.size≤w2.heap.size:=hsz2';obtain⟨kk,hkk⟩:=Zfs h6';have Hkk:=Qh hkk;have hsp:((ZG 0 xs.length (grow xs.length):Nat):Int)<((grow xs.length:Nat):Int):=by have:=Nat.mod_lt (0+xs.length) (show 0<grow xs.length by omega);unfold ZG;omega
  have hsp0:(0:Int)≤((ZG 0 xs.length (grow xs.length):Nat):Int):=Qn _;have fr3:=hb3.free (ZG 0 xs.length (grow xs.length))
  obtain⟨v0,cr⟩:∃v0,w3.cell? ⟨w2.heap.size,ZG 0 xs.length (grow xs.length),none⟩=some v0:=by
   rw[hb3.cell,Qg (by rw[List.length_append,List.length_drop,List.length_map,Hlm.out];omega)];exact⟨_,rfl⟩
  clear hkk
  go_upto_region 7 with (fail)
  go_region_held3 (fun w'=>Blk w' g 401 [.int .i64 room,.slice (some ⟨w2.heap.size,0,none⟩) (grow xs.length) (grow xs.length),.int .u64 0,.int .i64 xs.length]∧w'.cell? ⟨g,1,none⟩=some (.slice (some ⟨w2.heap.size,0,none⟩) (grow xs.length) (grow xs.length))∧w'.cell? ⟨g,3,none⟩=some (.int .i64 xs.length))
   (first|exact⟨hbx,c1,c3⟩|(go_split_ands;refine⟨?_,?_,?_⟩<;>first|assumption|(exact Blk.far (by assumption) (by simp;omega) _)|(rw[World.cell?_setCell_far _ _ _ _ (by simp;omega)];assumption)|go_keep))
   (first|(go_at_call 359;refine(ZcK _ g _ (grow xs.length) (grow xs.length) kk _ _ 0 _ (by assumption) Hkk.out (by omega) (by omega) (by omega) (by omega)).mono ?_;rintro e w' ⟨rfl,q,rfl⟩))
  go_wp2
  go_ret
  refine⟨rfl,fun i=>i=g∨i=w2.heap.size,?_,?_,?_⟩
  ·rintro i (rfl|rfl)
   ·exact .inl h1
   ·exact .inr hsz2
  ·have ho:w3.ownsRow 0 3 1 (.slice (some ⟨w2.heap.size,0,none⟩) (grow xs.length) (grow xs.length)) (grow xs.length) ((xs++List.replicate (grow xs.length-xs.length) (0:Int)).map (Value.int .i64)):=by
    refine⟨by simp;omega,.inr ⟨w2.heap.size,_,_,rfl,Nat.zero_le _,hb3,Nat.le_refl _,by simp only[maxLen];omega,?_,?_⟩⟩
    ·simp[Hlm.out];omega
    ·rw[Zht,Nat.mul_one,List.take_of_length_le (by simp;omega),←List.map_drop,List.drop_replicate,List.map_append]
   have hb3':Blk w3 g 401 [.int .i64 room,.slice (some ⟨w2.heap.size,0,none⟩) (grow xs.length) (grow xs.length),.int .u64 ((0:Nat):Int),.int .i64 xs.length]:=hbx
   have hq:=Zf7 (F:=fun i=>i=g∨i=w2.heap.size) x hb3' ho (by omega) (.inl rfl) (.inr rfl) (by rintro k (rfl|rfl);exact hbx.lt;exact hb3.lt) (.inr (Zfs h6')) (by omega) (by omega) (by omega) (fun i v hi=>by
    have hil:=(List.getElem?_eq_some_iff.1 hi).1;have e1:ZG 0 i (grow xs.length)=i:=by unfold ZG;rw[Nat.zero_add,Nat.mod_eq_of_lt (by omega)]
    rw[e1,List.getElem?_append_left hil];exact hi)
   exact hq
  ·refine(((hu3'.mono (fun i _ (e:i=g)=>e▸h1)).drewN _).setCell (p:=⟨w2.heap.size,_,none⟩) (.inr hsz2) _).setCell (p:=⟨g,3,none⟩) (.inl h1) _
 ·have hbf:((xs.length:Int)==(n:Int))=false:=by rw[beq_eq_false_iff_ne];omega
  obtain⟨gl,cap,hv,_,hll⟩:=h5.form (by omega);simp only[Value.slice.injEq]at hv;obtain⟨rfl,_,rfl⟩:=hv;have hgl:=h2 gl rfl;have hsp:((ZG fr xs.length n:Nat):Int)<(n:Int):=by have:=ZdS (fr:=fr) (i:=xs.length) (show 0<n by omega);omega
  have hsp0:(0:Int)≤((ZG fr xs.length n:Nat):Int):=Qn _;have hspn:=ZdS (fr:=fr) (i:=xs.length) (show 0<n by omega);have hrl:ring.length=n:=by have:=h5.1;simpa using this
  have Hrl:=Qh hrl;have f3:=h4.free 3;have fr3:=h5.frozenAt (ZG fr xs.length n);have hcr:=h5.cellAt (ZG fr xs.length n) (by omega)
  obtain⟨v0,cr⟩:∃v0,w.cell? ⟨gl,ZG fr xs.length n,none⟩=some v0:=by
   rw[hcr,Qg (by rw[List.length_map];omega)];exact⟨_,rfl⟩
  obtain⟨kk,hkk⟩:∃kk,n=2 ^ kk:=h6.resolve_left (by omega);have Hkk:=Qh hkk;have hbx:=h4;have hgg:=h4.lt;clear hkk hrl hcr;go_wp2
  go_quiet (fail)
  go_upto_region 7 with (fail)
  go_region_held3 (fun w'=>Blk w' g 401 [.int .i64 room,.slice (some ⟨gl,0,none⟩) n c,.int .u64 (fr:Int),.int .i64 xs.length]∧w'.cell? ⟨g,1,none⟩=some (.slice (some ⟨gl,0,none⟩) n c)∧w'.cell? ⟨g,3,none⟩=some (.int .i64 xs.length))
   (first|exact⟨hbx,c1,c3⟩|(go_split_ands;refine⟨?_,?_,?_⟩<;>first|assumption|(exact Blk.far (by assumption) (by simp;omega) _)|(rw[World.cell?_setCell_far _ _ _ _ (by simp;omega)];assumption)|go_keep))
   (first|(go_at_call 359;refine(ZcK _ g _ n c kk _ _ fr _ (by assumption) Hkk.out (by omega) (by omega) (by omega) (by omega)).mono ?_;rintro e w' ⟨rfl,q,rfl⟩))
  go_wp2
  go_ret
  refine⟨rfl,F,fun i hi=> .inl hi,?_,?_⟩
  ·exact Zf7 x hbx h5 hgl.2 h1 hgl.1 h3 h6 h7 h8 (by omega) h10
  ·exact(((Upd.refl F w).drewN _).setCell (p:=⟨gl,_,none⟩) (.inl hgl.1) _).setCell (p:=⟨g,3,none⟩) (.inl h1) _
end
/- Queues:what is first,and taken. Stacks. -/
section
open Go.RowKit
def Zj3 (n:Int):Int:=max 0 (min n 65536)
end
/- Rows of places that are set or not (bitrow):words of 64 places. -/
section
open Go.RowKit
def WOk (N:Nat) (S:Nat→Bool) (ws:List Nat):Prop:=ws.length=(N+63)/64∧(∀x∈ws,x<18446744073709551616)∧∀i,i<N→(ws.getD (i/64) 0).testBit (i%64)=S i
theorem WOk.at_ {N:Nat} {S:Nat→Bool} {ws:List Nat} (h:WOk N S ws) {i:Nat} (hi:i<N):∃x,ws[i/64]? =some x∧x<18446744073709551616∧x.testBit (i%64)=S i:=by
 obtain⟨h1,h2,h3⟩:=h;have hl:i/64<ws.length:=by omega
 refine⟨ws[i/64],Qg hl,h2 _ (List.getElem_mem hl),?_⟩;have:=h3 i hi
 rwa [List.getD_eq_getElem?_getD,Qg hl,Option.getD_some]at this
def Zj9 (S:Nat→Bool) (i:Nat) (on:Bool):Nat→Bool:=fun j=>if j=i then on else S j
theorem WOk.turn {N:Nat} {S:Nat→Bool} {ws:List Nat} (h:WOk N S ws) {i x:Nat} (hi:i<N) (hx:ws[i/64]? =some x):WOk N (Zj9 S i (!S i)) (ws.set (i/64) (x ^^^ 2 ^ (i%64))):=by
 obtain⟨h1,h2,h3⟩:=h;have hl:i/64<ws.length:=by omega
 have hm:i%64<64:=Nat.mod_lt _ (by decide);obtain⟨_,hx'⟩:=List.getElem?_eq_some_iff.1 hx;have hxs:=h2 x (by rw[←hx'];exact List.getElem_mem hl);refine⟨by rw[List.length_set];exact h1,fun y hy=> ?_,fun j hj=> ?_⟩
 ·rcases List.mem_or_eq_of_mem_set hy with hy|rfl
  ·exact h2 y hy
  ·exact Nat.xor_lt_two_pow (n:=64) hxs (Nat.pow_lt_pow_right (by decide) hm)
 ·rw[List.getD_eq_getElem?_getD,List.getElem?_set];unfold Zj9
  by_cases hw:i/64=j/64
  ·rw[if_pos hw,if_pos (by omega),Option.getD_some,Nat.testBit_xor,Nat.testBit_two_pow]
   have hS:x.testBit (j%64)=S j:=by
    have:=h3 j hj
    rwa [List.getD_eq_getElem?_getD,←hw,hx,Option.getD_some]at this
   rw[hS]
   by_cases e:j=i
   ·subst e;simp
   ·rw[if_neg e,decide_eq_false (by omega)];simp
  ·rw[if_neg hw,if_neg (fun e=>hw (by rw[e]))];have:=h3 j hj
   rwa [List.getD_eq_getElem?_getD]at this
end
end Go.Proofs.YtblplapkdmhikaaGreat
