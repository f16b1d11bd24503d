/- Witnesses, plain: there is one just if the history has the phenomenon; it is right, and none that is right is ahead of it. -/
import Derived.Test.YtblplapkdmhikaaGreatDbag
import Derived.Test.YtblplapkdmhikaaGreatDbak
import Derived.Test.YtblplapkdmhikaaGreatDbam
import Derived.Test.YtblplapkdmhikaaGreatDbaw
import Derived.Test.YtblplapkdmhikaaGreatDbax
import Derived.Test.YtblplapkdmhikaaGreatDbaz
import Derived.Test.YtblplapkdmhikaaGreatDbbf
import Derived.Test.YtblplapkdmhikaaGreatDbbg
import Derived.Test.YtblplapkdmhikaaGreatDbbh
import Derived.Test.YtblplapkdmhikaaGreatDbbi
import Derived.Test.YtblplapkdmhikaaGreatDbbj
import Derived.Test.YtblplapkdmhikaaGreatDbbm
import Derived.Test.YtblplapkdmhikaaGreatDbbn
import Derived.Test.YtblplapkdmhikaaGreatDbbp
import Derived.Test.YtblplapkdmhikaaGreatDbbq
import Derived.Test.YtblplapkdmhikaaGreatDbbs
import Derived.Test.YtblplapkdmhikaaGreatDbbt
import Derived.Test.YtblplapkdmhikaaGreatDbbv
import Derived.Test.YtblplapkdmhikaaGreatDbbw
namespace Go.Proofs.YtblplapkdmhikaaGreat
set_option linter.unusedVariables false
set_option linter.unusedSimpArgs false
section
section
variable {h:Hist}
theorem Zfx (hl:Zk h=true):(Zc2 (Zc h)).length≤1152:=by unfold Zc2;rw[List.length_map];exact Zeb hl
theorem Zck (a:HBad):Zw a a=false:=by unfold Zw;simp
end
end
/- Orders as if one by one,plain:what the program computes,of each key the version that was written last,is the document's. -/
section
section
variable {h:Hist} {O:List Int}
theorem ZlC (hr:Za h=true) {t:HTx} (ht:t∈h.txs) {o:HOp} (ho:o∈t.ops):opB o=true:=by
 have h0:=(Zbk hr ht).1;unfold ZJ at h0
 split at h0
 ·cases h0
 ·split at h0
  ·cases h0
  ·have key:∀n,Zt t.id t.ops n=0→∀j,j<n→Zab t.id t.ops j=0:=by
    intro n
    induction n with
    |zero=>intro _ j hj;omega
    |succ n ih=>
     intro e j hj;unfold Zt at e
     split at e
     ·rename_i e1
      by_cases hjn:j=n
      ·rw[hjn];exact e
      ·exact ih e1 j (by omega)
     ·rename_i e1;exact absurd e e1
   obtain⟨j,hj,rfl⟩:=List.mem_iff_getElem.1 ho;have hb:=key _ h0 j hj;unfold Zab at hb;rw[Qg hj]at hb;simp only at hb
   split at hb
   ·cases hb
   ·rename_i hq;simpa using hq
end
/-! who wrote each key last -/
end
/- How edges and bad reads change,plain:what is of keys that are not touched stays. -/
section
def ZhB (x y:HTx):Bool:=x.id==y.id&&(x.done==y.done&&x.ops==y.ops)
def ZhC (x y:HOrd):Bool:=x.key==y.key&&x.txs==y.txs
def ZbX (l:List HOrd) (k:Int):Option HOrd:=l.find? fun o=>o.key==k
def Zdy (l:List HTx) (x:HTx):Bool:=match Ze l x.id with|some y=>ZhB x y|none=>false
def Zdz (l:List HOrd) (x:HOrd):Bool:=match ZbX l x.key with|some y=>ZhC x y|none=>false
def Zj (a b:List HTx):List HTx:=a.filter fun x=> !Zdy b x
def Zo (a b:List HOrd):List HOrd:=a.filter fun x=> !Zdz b x
def Zai (l:List HOp):List Int:=Za3 (ZD l fun _=>true)
def Zji (a b:Hist):List Int:=((Zj a.txs b.txs++Zj b.txs a.txs).flatMap fun t=>Zai t.ops)++(Zo a.ords b.ords++Zo b.ords a.ords).map (·.key)
def ZL (a b:Hist):List Int:=Za3 (Zji a b)
theorem Zjq {l:List HOp} {k:Int}:k∈Zai l↔∃o∈l,o.key=k:=by
 unfold Zai ZD;rw[Zbu,List.mem_map];simp
theorem mem_keysD {a b:Hist} {k:Int}:k∈ZL a b↔(∃t,(t∈Zj a.txs b.txs∨t∈Zj b.txs a.txs)∧∃o∈t.ops,o.key=k)∨∃o,(o∈Zo a.ords b.ords∨o∈Zo b.ords a.ords)∧o.key=k:=by
 unfold ZL Zji;rw[Zbu,List.mem_append,List.mem_flatMap,List.mem_map];simp only[List.mem_append,Zjq]
theorem keysD_comm {a b:Hist} {k:Int}:k∈ZL a b↔k∈ZL b a:=by
 rw[mem_keysD,mem_keysD]
 constructor
 ·rintro(⟨t,h1,h2⟩|⟨o,h1,h2⟩)
  ·exact Or.inl ⟨t,h1.symm,h2⟩
  ·exact Or.inr ⟨o,h1.symm,h2⟩
 ·rintro(⟨t,h1,h2⟩|⟨o,h1,h2⟩)
  ·exact Or.inl ⟨t,h1.symm,h2⟩
  ·exact Or.inr ⟨o,h1.symm,h2⟩
theorem Zf9 {l:List HOp} {k:Int} (h:0<Zd l k):∃o∈l,o.key=k:=by
 have h2:=(ZgT l k).2 h;unfold ZY ZD at h2;rw[Zbu,List.mem_map]at h2;obtain⟨o,h3,h4⟩:=h2;exact⟨o,(List.mem_filter.1 h3).1,h4⟩
section
variable {a b:Hist} {k:Int}
theorem Zht (hk:k∉ZL a b) {t:HTx} (ht:t∈a.txs) {o:HOp} (ho:o∈t.ops) (hok:o.key=k):∃u,Ze b.txs t.id=some u∧u.id=t.id∧u.done=t.done∧u.ops=t.ops:=by
 cases hh:Zdy b.txs t with
 |true=>
  unfold Zdy at hh
  cases hf:Ze b.txs t.id with
  |none=>rw[hf]at hh;cases hh
  |some u=>
   rw[hf]at hh;unfold ZhB at hh;simp only[Bool.and_eq_true,beq_iff_eq]at hh;exact⟨u,rfl,hh.1.symm,hh.2.1.symm,hh.2.2.symm⟩
 |false=>
  exact absurd (mem_keysD.2 (Or.inl ⟨t,Or.inl (by unfold Zj;rw[List.mem_filter,hh];exact⟨ht,rfl⟩),o,ho,hok⟩)) hk
theorem Zde (hk:k∉ZL a b) {i:Int} {t:HTx} (ht:Zq a.txs i=some t) (ho:∃o∈t.ops,o.key=k):∃u,Zq b.txs i=some u∧u.id=t.id∧u.ops=t.ops:=by
 obtain⟨h1,h2⟩:=Zaq ht;obtain⟨h3,h4⟩:=ZaV h1;obtain⟨o,ho,hok⟩:=ho;obtain⟨u,g1,g2,g3,g4⟩:=Zht hk h3 ho hok;refine⟨u,?_,g2,g4⟩;unfold Zq;rw[←h4,g1];simp only[g3,h2,if_true]
theorem Zfj (hk:k∉ZL a b) {x y:Int} (h:Nx a.ords k x y):Nx b.ords k x y:=by
 obtain⟨o,ho,hok,i,h1,h2⟩:=h
 cases hh:Zdz b.ords o with
 |true=>
  unfold Zdz at hh
  cases hf:ZbX b.ords o.key with
  |none=>rw[hf]at hh;cases hh
  |some u=>
   rw[hf]at hh;unfold ZhC at hh;simp only[Bool.and_eq_true,beq_iff_eq]at hh;exact⟨u,List.mem_of_find?_eq_some hf,hh.1.symm.trans hok,i,by rw[←hh.2];exact h1,by rw[←hh.2];exact h2⟩
 |false=>
  exact absurd (mem_keysD.2 (Or.inr ⟨o,Or.inl (by unfold Zo;rw[List.mem_filter,hh];exact⟨ho,rfl⟩),hok⟩)) hk
theorem Zhu (hk:k∉ZL a b) {v:Ver} (hv:v.key=k) (hn:v.tx=0∨1≤v.nth) (h:ZaC a.txs v=true):ZaC b.txs v=true:=by
 unfold ZaC at h ⊢
 by_cases h0:v.tx=0
 ·rw[if_pos h0]
 ·rw[if_neg h0]at h ⊢
  cases hd:Zq a.txs v.tx with
  |none=>rw[hd]at h;cases h
  |some t=>
   rw[hd]at h;simp only[beq_iff_eq]at h;have hw:0<Zd t.ops k:=by have:=hn.resolve_left h0;rw[hv]at h;omega
   obtain⟨u,g1,_,g3⟩:=Zde hk hd (Zf9 hw);rw[g1];simp only[beq_iff_eq];rw[g3];exact h
theorem ZeX (hr:Za a=true) {t:HTx} (ht:t∈a.txs) {o:HOp} (ho:o∈t.ops) (hrd:o.read=true):o.tx=0∨1≤o.nth:=by
 by_cases h0:o.tx=0
 ·exact Or.inl h0
 ·exact Or.inr (Zkw (ZlC hr ht ho) hrd h0)
theorem Zi2 (hr:Za a=true) {i:Int} {t:HTx} (h:Zq a.txs i=some t):t∈a.txs∧t.id=i∧1≤i:=by
 obtain⟨h1,_⟩:=Zaq h;obtain⟨h3,h4⟩:=ZaV h1;have:=ZeW hr h3;exact⟨h3,h4,by omega⟩
theorem Zld (ha:Za a=true) (hb:Za b=true) {e:Edge} (hk:e.key∉ZL a b) (h:0<Zf a e):Zf b e=Zf a e:=by
 have hk2:e.key∉ZL b a:=fun h=>hk (keysD_comm.2 h)
 unfold Zf at h ⊢
 cases hf:Zq a.txs e.f with
 |none=>rw[hf]at h;exact absurd h (by simp)
 |some x=>
  cases ht:Zq a.txs e.t with
  |none=>rw[hf,ht]at h;exact absurd h (by simp)
  |some y=>
   rw[hf,ht]at h;simp only at h ⊢;obtain⟨hxm,hxi,hf1⟩:=Zi2 ha hf;obtain⟨hym,hyi,ht1⟩:=Zi2 ha ht
   by_cases hne:e.f=e.t
   ·rw[if_pos hne]at h;exact absurd h (by simp)
   ·rw[if_neg hne]at h ⊢
    by_cases k1:e.k=1
    ·rw[if_pos k1]at h ⊢
     have hn:Zbf a.ords e.key e.f e.t=true:=by
      cases hq:Zbf a.ords e.key e.f e.t with
      |true=>rfl
      |false=>rw[hq]at h;exact absurd h (by simp)
     have hx:=Zfj hk ((Z9 ha _ _ _).1 hn);obtain⟨⟨v,hv⟩,_,_,h0⟩:=hx.ids hb;obtain⟨u,hu⟩:=h0.resolve_left (by omega);rw[hu,hv,hn];simp only;rw[if_neg hne,if_pos k1,(Z9 hb _ _ _).2 hx];simp
    ·rw[if_neg k1]at h ⊢
     by_cases k2:e.k=2
     ·rw[if_pos k2]at h ⊢;obtain⟨o,ho,hp⟩:=List.countP_pos_iff.1 h;unfold p2 at hp;simp only[Bool.and_eq_true,beq_iff_eq]at hp;obtain⟨⟨⟨q1,q2⟩,q3⟩,q4⟩:=hp;obtain⟨u,hu,_,hu2⟩:=Zde hk ht ⟨o,ho,q2⟩;have hnth:=(ZeX ha hym ho q1).resolve_left (by omega);obtain⟨v,hv,_,hv2⟩:=Zde hk hf (Zf9 (by omega));rw[hv,hu];simp only;rw[if_neg hne,if_neg k1,if_pos k2,hu2,hv2]
     ·rw[if_neg k2]at h ⊢
      by_cases k3:e.k=3
      ·rw[if_pos k3]at h ⊢;obtain⟨o,ho,hp⟩:=List.countP_pos_iff.1 h;unfold p3 at hp;simp only[Bool.and_eq_true,beq_iff_eq]at hp;obtain⟨⟨⟨⟨q1,q2⟩,_⟩,_⟩,q5⟩:=hp;obtain⟨u,hu,hu1,hu2⟩:=Zde hk hf ⟨o,ho,q2⟩;obtain⟨⟨v,hv⟩,_⟩:=(Zfj hk ((Z9 ha _ _ _).1 q5)).ids hb;rw[hu,hv];simp only;rw[if_neg hne,if_neg k1,if_neg k2,if_pos k3,hu2,hu1];refine List.countP_congr fun o ho=> ?_
       unfold p3;simp only[Bool.and_eq_true,beq_iff_eq]
       constructor
       ·rintro⟨⟨⟨⟨g1,g2⟩,g3⟩,g4⟩,g5⟩;exact⟨⟨⟨⟨g1,g2⟩,g3⟩,Zhu (v:=⟨o.tx,o.key,o.nth⟩) hk2 g2 (ZeX ha hxm ho g1) g4⟩,(Z9 ha _ _ _).2 (Zfj hk2 ((Z9 hb _ _ _).1 g5))⟩
       ·rintro⟨⟨⟨⟨g1,g2⟩,g3⟩,g4⟩,g5⟩;exact⟨⟨⟨⟨g1,g2⟩,g3⟩,Zhu (v:=⟨o.tx,o.key,o.nth⟩) hk g2 (ZeX ha hxm ho g1) g4⟩,(Z9 hb _ _ _).2 (Zfj hk ((Z9 ha _ _ _).1 g5))⟩
      ·rw[if_neg k3]at h;exact absurd h (by simp)
theorem Zh9 (ha:Za a=true) (hb:Za b=true) {e:Edge} (hk:e.key∉ZL a b):Zf a e=Zf b e:=by
 by_cases h1:0<Zf a e
 ·exact(Zld ha hb hk h1).symm
 ·by_cases h2:0<Zf b e
  ·exact Zld hb ha (fun h=>hk (keysD_comm.2 h)) h2
  ·omega
theorem Zi8 (ha:Za a=true) (hb:Za b=true) {p:Int} {x:HBad} (hx:x∈Z3 a p) (hk:x.of.key∉ZL a b):x∈Z3 b p:=by
 unfold Z3 at hx ⊢;rw[if_pos ha]at hx;rw[if_pos hb];rcases(ZdZ _ _ _ _ _).1 hx with hx|⟨t,ht,j,o,hj,hbo,rfl⟩
 ·cases hx
 ·have ho:o∈t.ops:=List.mem_of_getElem? hj;unfold Zbx at hbo;simp only[Bool.and_eq_true,Bool.not_eq_true',beq_eq_false_iff_ne]at hbo;obtain⟨⟨⟨⟨g1,g2⟩,g3⟩,g4⟩,g5⟩:=hbo;have hvo:Zp o=⟨o.tx,o.key,o.nth⟩:=by unfold Zp;rw[if_pos g2]
  rw[hvo]at hk;simp only at hk;obtain⟨v,hv1,hv2,hv3,hv4⟩:=Zht hk ht ho rfl;have hvm:=(ZaV hv1).1;have Ze6:=ZgE ha ht ho (by unfold ZaS;rw[hvo];simp[g2,g3,g4]);rw[hvo]at Ze6;unfold Z8 at Ze6;rw[if_neg (fun e=>g3 e.1)]at Ze6
  cases hfu:Ze a.txs o.tx with
  |none=>rw[hfu]at g5;cases g5
  |some u=>
   rw[hfu]at Ze6 g5;simp only[Bool.and_eq_true,decide_eq_true_eq]at Ze6 g5;obtain⟨hum,hui⟩:=ZaV hfu;obtain⟨q,hq,hqk⟩:=Zf9 (show 0<Zd u.ops o.key by omega);obtain⟨u2,hu1,_,hu3,hu4⟩:=Zht hk hum hq hqk;rw[hui]at hu1;refine(ZdZ _ _ _ _ _).2 (Or.inr ⟨v,hvm,j,o,by rw[hv4];exact hj,?_,by rw[hv2]⟩);unfold Zbx;rw[hu1,hv3,g1,g2];simp only[hv2,hu3,hu4,Bool.and_eq_true,Bool.not_eq_true',beq_eq_false_iff_ne];exact⟨⟨⟨⟨trivial,trivial⟩,g3⟩,g4⟩,g5⟩
end
end
/- The keys that a transaction touches (txn.Touched);whether two are one (txn.Same). -/
section
open Go.RowKit
theorem ZjB {l:List HOp} {k:Nat} {x:HOp} (hk:k<l.length) (hx:l[k]=x):ZD (l.take (k+1)) (fun _=>true)=ZD (l.take k) (fun _=>true)++[x.key]:=by
 subst hx;unfold ZD;rw[List.take_succ_eq_append_getElem hk,List.filter_append,List.map_append];rfl
theorem Zm6 (w:World) (o:HOp):Calls Tryz.prog 176 #[.agg o.cells.toArray] w fun e w'=>e= .returned (.bool true)∧Upd No w w':=by
 unfold HOp.cells
 go_enter Tryz.func176,Tryz.ntmps176
 go_wp2
 go_ret
 exact⟨rfl,(Upd.refl _ _).alloc _⟩
set_option maxRecDepth 100000 in
set_option maxHeartbeats 1000000 in
theorem ZnU (F:Nat→Prop) (w:World) (i0:Int) (dn:Bool) (A:Option Addr) (c:Nat) (l:List HOp) (h:HOps F w A l) (hl:Zg l.length):
  Calls Tryz.prog 175 #[.agg #[.int .i64 i0,.bool dn,.slice A l.length c],.func (.func 176) #[] #[]] w (Zgx w (Zai l)):=by
 unfold Zg at hl
 go_enter Tryz.func175,Tryz.ntmps175
 go_wp2
 go_loopg [5,11] l.length (fun gk s i wr=>∃(k:Nat) (A5:Option Addr) (c5:Nat) (xs:List Int),k+gk=l.length∧i= .int .i64 k∧s= .slice A5 xs.length c5∧Hid (xs=ZD (l.take k) fun _=>true)∧xs.length≤k∧
  wr.ownsRow w.heap.size 3 1 (.slice A5 xs.length c5) xs.length (xs.map (Value.int .i64))∧Upd No w wr)
 case atStart=>exact⟨0,none,0,[],by omega,rfl,rfl,Qh (by simp[ZD]),by simp,World.ownsRow_nil _ _ _ _,(Upd.refl _ _).alloc _⟩
 case round=>
  obtain⟨k,A5,c5,xs,hgk,rfl,rfl,hxs,hxl,hown,hu⟩:=hrel
  by_cases hlt:k<l.length
  ·obtain⟨ad,hAd,q0,q1,q2,q3⟩:=(h.upd hu (fun _ _=>id)).at_ hlt;obtain⟨x,hx⟩:∃x,l[k]=x:=⟨_,rfl⟩;rw[hx]at q0 q1 q2 q3;subst hAd;have HS:=Qh (ZjB hlt hx);clear hx;have b1:(0:Int)≤(k:Int):=Qn _;have b2:(k:Int)<(l.length:Int):=by omega
   have uA:=(Upd.refl No wr).alloc (.cells #[.bool x.read,.int .i64 x.key,.int .i64 x.tx,.int .i64 x.nth] 95);have bo:=Blk.new wr 95 [.bool x.read,.int .i64 x.key,.int .i64 x.tx,.int .i64 x.nth];have hown1:=Zb hown uA (fun _ _=>id)
   go_wp2_with fail
   refine(Zm6 _ x).mono ?_;rintro e w1 ⟨rfl,hu1⟩;have bo1:=bo.upd hu1 id;have g1:=bo1.cell 1;simp only[Qz,Qs]at g1;have hown2:=Zb hown1 hu1 (fun _ _=>id);have hz1:=(uA.trans hu1).size;have hz0:=hu.size;have Hu1:=Qh ((hu.trans uA).trans hu1);clear hown1 uA hu1
   go_wp2_with (at_builtin;refine Zag rfl rfl Zcn (v:= .slice A5 xs.length c5) (cells:=[.int .i64 x.key]) (by rfl) rfl hown2 rfl rfl (by omega) (by omega) (by omega) ?_;intro g' c' w2 hown3 hu3 hg3 hlt3)
   go_roundg (gk-1)
   case measure=>omega
   case rel=>
    refine⟨k+1,some ⟨g',0,none⟩,c',xs++[x.key],by omega,by go_num,by simp,Qh (by rw[HS.out,hxs.out]),by simp;omega,by simpa using hown3,Hu1.out.then_ hu3 fun i e=> ?_⟩;exact .inr (hown2.lt i e).1
  ·obtain rfl:k=l.length:=by omega
   have Hx:=Qh (show xs=ZD l fun _=>true by rw[hxs.out,List.take_length]);clear hxs;have hsl:=Qh (Zbz xs);have Hk:=Qh (show Lib.compact (ZM xs)=Zai l by rw[Zct,Hx.out];rfl)
   go_wp2_with fail
   refine(ZfQ _ _ A5 c5 xs hown (by omega)).mono ?_;rintro e w1 ⟨rfl,ho1,hu1⟩;have ho1':w1.ownsRow w.heap.size 3 1 (.slice A5 (ZM xs).length c5) (ZM xs).length ((ZM xs).map (Value.int .i64)):=by rw[hsl.out];exact ho1
   have hic:=Ze5 w1 w.heap.size A5 c5 (ZM xs) ho1' (by rw[hsl.out];omega);rw[Hk.out,hsl.out]at hic;have Hic:=Qh hic;have hge:=Qh (show∀i,Own (.slice A5 xs.length c5) i→w.heap.size≤i from fun i e=>(hown.lt i e).1);clear hic ho1 ho1' hown
   go_wp2_with fail
   refine(Hic.out).mono ?_;rintro e w2 ⟨rfl,ho2,hu2⟩;go_wp2
   go_ret
   exact⟨A5,c5,rfl,ho2,(hu.then_ hu1 fun i e=> .inr (hge.out i e)).then_ hu2 fun i e=> .inr (hge.out i e)⟩
set_option maxRecDepth 100000 in
theorem ZlZ (F:Nat→Prop) (w:World) (i0:Int) (dn:Bool) (A:Option Addr) (c:Nat) (l:List HOp) (h:HOps F w A l) (hl:Zg l.length):
  Calls Tryz.prog 84 #[.agg #[.int .i64 i0,.bool dn,.slice A l.length c]] w (Zgx w (Zai l)):=by
 have h1:=h.upd ((Upd.refl No w).alloc (.cells #[.int .i64 i0,.bool dn,.slice A l.length c] 81)) (fun _ _=>id)
 go_enter Tryz.func84,Tryz.ntmps84
 go_wp2_with fail
 refine(ZnU F _ i0 dn A c l h1 hl).mono ?_;rintro e w1 ⟨A1,c1,rfl,ho,hu⟩;go_wp2
 go_ret
 exact⟨A1,c1,rfl,ZK ho (by simp),((Upd.refl No w).alloc _).trans hu⟩
set_option maxRecDepth 100000 in
set_option maxHeartbeats 1000000 in
theorem ZnQ (w:World) (F G:Nat→Prop) (A B:Option Addr) (c d:Nat) (xs ys:List HOp) (hx:Recs F w A 4 (xs.map HOp.cells)) (hy:Recs G w B 4 (ys.map HOp.cells)) (hl:xs.length≤4398046511103) (hl2:ys.length≤4398046511103) {v:Bool} (hv:(xs==ys)=v):
  Calls Tryz.prog 236 #[.slice A xs.length c,.slice B ys.length d] w fun e w'=>e= .returned (.bool v)∧Upd No w w':=by
 have qG:∀(op:BinOp) (x y:Operand) (xs ys:Array Value) (w:World),(eqGuard op 95 x y (.agg xs) (.agg ys)).run Tryz.prog w= .ok () w:=fun op x y xs ys w=>run_eqGuard_agg w op _ x y xs ys (by kernel_rfl)
 subst hv
 by_cases hn:xs.length=ys.length
 ·have hnb:((xs.length:Int) != (ys.length:Int))=false:=by rw[bne_eq_false_iff_eq];omega
  have HN:=Qh hn;clear hn
  go_enter Tryz.func236,Tryz.ntmps236
  go_wp2
  go_loopg [5,13] xs.length (fun gk j i wr=>∃k:Nat,k+gk=xs.length∧i= .int .i64 k∧Hid (xs.take k=ys.take k)∧Upd No w wr)
  case atStart=>exact⟨0,by omega,rfl,Qh rfl,Upd.refl _ _⟩
  case round=>
   obtain⟨k,hgk,rfl,hs,hu⟩:=hrel
   by_cases hlt:k<xs.length
   ·have hlt2:k<ys.length:=by have:=HN.out;omega
    obtain⟨ax,rfl,q0,q1,q2,q3⟩:=HOps.at_ (Recs.upd hx hu (fun _ _=>id)) hlt;obtain⟨ay,rfl,r0,r1,r2,r3⟩:=HOps.at_ (Recs.upd hy hu (fun _ _=>id)) hlt2;obtain⟨x,hxx⟩:∃x,xs[k]=x:=⟨_,rfl⟩;obtain⟨y,hyy⟩:∃y,ys[k]=y:=⟨_,rfl⟩;simp only[hxx]at q0 q1 q2 q3;simp only[hyy]at r0 r1 r2 r3;have hq:=fun W=>ZiW W x y
    have i1:(0:Int)≤(k:Int):=Qn _;have i2:(k:Int)<(xs.length:Int):=by omega
    have i3:(k:Int)<(ys.length:Int):=by omega
    have HX:=Qh hxx;have HY:=Qh hyy;clear hxx hyy
    by_cases he:x=y
    ·have HN2:=Qh (show xs.take (k+1)=ys.take (k+1) by rw[List.take_succ_eq_append_getElem hlt,List.take_succ_eq_append_getElem hlt2,hs.out,HX.out,HY.out,he]);have heb:(x != y)=false:=by simpa using he
     rw[heb]at hq;clear he heb;go_wp2
     go_quiet (fail)
     go_wp2
     go_roundg (gk-1)
     case measure=>omega
     case rel=>exact⟨k+1,by omega,by go_num,HN2,hu.drewN _⟩
    ·have HF:=Qh (show(xs==ys)=false from by
      rw[beq_eq_false_iff_ne];intro e;subst e;exact he (HX.out.symm.trans HY.out))
     have heb:(x != y)=true:=by simpa using he
     rw[heb]at hq;clear he heb;go_wp2
     go_quiet (fail)
     go_wp2
     go_ret
     exact⟨by rw[HF.out];rfl,hu.drewN _⟩
   ·obtain rfl:k=xs.length:=by omega
    have HT:=Qh (show(xs==ys)=true from by
     rw[beq_iff_eq];have:=hs.out
     rwa [List.take_length,HN.out,List.take_length]at this)
    go_wp2
    go_ret
    exact⟨by rw[HT.out];rfl,hu⟩
 ·have HF:=Qh (show(xs==ys)=false from by
   rw[beq_eq_false_iff_ne];intro e;exact hn (by rw[e]))
  have hnb:((xs.length:Int) != (ys.length:Int))=true:=by rw[bne_iff_ne];omega
  clear hn
  go_enter Tryz.func236,Tryz.ntmps236
  go_wp2
  go_ret
  exact⟨by rw[HF.out];rfl,Upd.refl _ _⟩
set_option maxRecDepth 100000 in
theorem ZlU (F G:Nat→Prop) (w:World) (A B:Option Addr) (c d:Nat) (xs ys:List HOp) (hx:HOps F w A xs) (hy:HOps G w B ys) (hl:Zg xs.length) (hl2:Zg ys.length) {v:Bool} (hv:(xs==ys)=v):
  Calls Tryz.prog 172 #[.slice A xs.length c,.slice B ys.length d] w fun e w'=>e= .returned (.bool v)∧Upd No w w':=by
 have CE:=Qh (ZnQ w F G A B c d xs ys hx hy hl hl2 hv);clear hx hy hv hl hl2
 go_enter Tryz.func172,Tryz.ntmps172
 go_wp2_with fail
 refine(CE.out).mono ?_;rintro e w1 ⟨rfl,hu1⟩;go_wp2
 go_ret
 exact⟨rfl,hu1⟩
end
/- Orders as if one by one:who is done;the versions that were written last,in a map. -/
section
open Go.RowKit
/-! the map -/
theorem ZkE {m:List (Int×Value)} {k:Int}:(Zz m k).isSome=true↔k∈m.map (·.1):=by
 unfold Zz
 have key:∀(m:List (Int×Value)) (i:Nat),(look k m i).isSome=true↔k∈m.map (·.1):=by
  intro m
  induction m with
  |nil=>intro i;simp[look]
  |cons p m ih=>
   intro i;unfold look
   by_cases e:k=p.1
   ·simp[e]
   ·rw[if_neg e,ih (i+1)];simp[e]
 rw[Option.isSome_map,key]
structure WorldM (w:World) (b:Nat) (m:List (Int×Value)) (f:Int→Option Ver):Prop where
 is:MapE w b (fun n:Int=>Value.int .i64 n) m
 nd:(m.map (·.1)).Nodup
 get:∀k,Zz m k=(f k).map Zbo
namespace WorldM
variable {w w':World} {b:Nat} {m:List (Int×Value)} {f g:Int→Option Ver} {S:Nat→Prop}
theorem upd (h:WorldM w b m f) (u:Upd S w w') (hn:¬S b):WorldM w' b m f:=⟨h.is.upd u hn,h.nd,h.get⟩
theorem new (w:World):WorldM (w.alloc (.map #[] 0)) w.heap.size [] (fun _=>none):=⟨MapE.new w _,by simp,fun _=>rfl⟩
theorem congr (h:WorldM w b m f) (e:∀k,f k=g k):WorldM w b m g:=⟨h.is,h.nd,fun k=>by rw[h.get,e]⟩
theorem lt (h:WorldM w b m f):b<w.heap.size:=h.is.lt
theorem keys (h:WorldM w b m f) (k:Int):k∈m.map (·.1)↔(f k).isSome=true:=by rw[←ZkE,h.get,Option.isSome_map]
end WorldM
end
/- Orders as if one by one:whether one agrees with a history (serial.Agrees). -/
section
open Go.RowKit
set_option maxRecDepth 100000 in
theorem ZoC (F G:Nat→Prop) (w:World) (A B:Option Addr) (c d:Nat) (xs ys:List Int) (hx:Ints F w A xs) (hy:Ints G w B ys) (hl:xs.length≤17592186044415) (hl2:ys.length≤17592186044415) {v:Bool} (hv:(xs==ys)=v):
  Calls Tryz.prog 174 #[.slice A xs.length c,.slice B ys.length d] w fun e w'=>e= .returned (.bool v)∧Upd No w w':=by
 have CE:=Qh (ZkQ F G w A B c d xs ys hx hy hl hl2);rw[hv]at CE;clear hx hy hv
 go_enter Tryz.func174,Tryz.ntmps174
 go_wp2_with fail
 refine(CE.out).mono ?_;rintro e w1 ⟨rfl,hu1⟩;go_wp2
 go_ret
 exact⟨rfl,hu1⟩
theorem Zeu {G:Nat→Prop} {w:World} {A:Option Addr} {l:List HOrd} (h:Recs G w A 2 (l.map HOrd.cells)) {k:Nat} (hk:k<l.length):∃ad,A=some ad∧
  w.cell? (ad.add (k*2))=some (.int .i64 l[k].key)∧w.cell? ⟨(ad.add (k*2)).block,(ad.add (k*2)).off+1,none⟩=some (.slice l[k].A l[k].txs.length l[k].c):=by
 have hk':k<(l.map HOrd.cells).length:=by simpa using hk
 obtain⟨ad,e,_,_,hc⟩:=Recs.at_ h hk';rw[List.getElem_map]at hc;exact⟨ad,e,by simpa using hc 0 _ rfl,by simpa using hc 1 _ rfl⟩
end
/- Deltas:who is there just so (delta.seek,less;txn.Same,delta.sameOrder). -/
section
open Go.RowKit
def txV:Option HTx→Value
 |some x=> .agg #[.int .i64 x.id,.bool x.done,.slice x.A x.ops.length x.c]
 |none=> .agg #[.int .i64 0,.bool false,.slice none 0 0]
def orV:Option HOrd→Value
 |some x=> .agg #[.int .i64 x.key,.slice x.A x.txs.length x.c]
 |none=> .agg #[.int .i64 0,.slice none 0 0]
theorem ZjK {l:List HOrd} {i:Int} (h:∀(k:Nat) (hk:k<l.length),(l[k].key==i)=false):ZbX l i=none:=by
 unfold ZbX;rw[List.find?_eq_none];intro x hx;obtain⟨k,hk,rfl⟩:=List.mem_iff_getElem.1 hx;rw[h k hk];decide
theorem ZjJ {l:List HOrd} {i:Int} {k:Nat} (hk:k<l.length) (h:∀(j:Nat) (hj:j<k),((l[j]'(by omega)).key==i)=false) (h1:(l[k].key==i)=true):ZbX l i=some l[k]:=by
 unfold ZbX;rw[List.find?_eq_some_iff_getElem];exact⟨h1,k,hk,rfl,fun j hj=>by simp only[h j hj];rfl⟩
theorem Zfk {G:Nat→Prop} {w:World} {A:Option Addr} {l:List HTx} (h:Recs G w A 3 (l.map HTx.cells)) {k:Nat} (hk:k<l.length):∃ad,A=some ad∧
  w.cell? (ad.add (k*3))=some (.int .i64 l[k].id)∧w.cell? ⟨(ad.add (k*3)).block,(ad.add (k*3)).off+1,none⟩=some (.bool l[k].done)∧w.cell? ⟨(ad.add (k*3)).block,(ad.add (k*3)).off+2,none⟩=some (.slice l[k].A l[k].ops.length l[k].c):=by
 have hk':k<(l.map HTx.cells).length:=by simpa using hk
 obtain⟨ad,e,_,_,hc⟩:=Recs.at_ h hk';rw[List.getElem_map]at hc;exact⟨ad,e,by simpa using hc 0 _ rfl,by simpa using hc 1 _ rfl,by simpa using hc 2 _ rfl⟩
theorem dId (w:World) (n:Int) (b:Bool) (A:Option Addr) (m c:Nat):Calls Tryz.prog 79 #[.agg #[.int .i64 n,.bool b,.slice A m c]] w fun e w'=>e= .returned (.int .i64 n)∧Upd No w w':=by
 go_enter Tryz.func79,Tryz.ntmps79
 go_wp2
 go_ret
 exact⟨rfl,(Upd.refl _ _).alloc _⟩
theorem Zn5 (w:World) (n:Int) (A:Option Addr) (m c:Nat):Calls Tryz.prog 82 #[.agg #[.int .i64 n,.slice A m c]] w fun e w'=>e= .returned (.int .i64 n)∧Upd No w w':=by
 go_enter Tryz.func82,Tryz.ntmps82
 go_wp2
 go_ret
 exact⟨rfl,(Upd.refl _ _).alloc _⟩
set_option maxRecDepth 100000 in
set_option maxHeartbeats 1000000 in
theorem Zoo {F:Nat→Prop} {w:World} {A:Option Addr} {c:Nat} {l:List HTx} (L:Recs F w A 3 (l.map HTx.cells)) (hl:l.length≤4398046511103) (n:Int) {o:Option HTx} (ho:Ze l n=o):
  Calls Tryz.prog 171 #[.slice A l.length c,.int .i64 n,.func (.func 79) #[] #[]] w fun e w'=>e= .returned (.tuple #[txV o,.bool o.isSome])∧Upd No w w':=by
 obtain⟨wb,hwb⟩:∃wb,w.alloc (.cells #[.int .i64 0,.bool false,.slice none 0 0] 81)=wb:=⟨_,rfl⟩;have ub:Upd No w wb:=by rw[←hwb];exact(Upd.refl No w).alloc _
 have B1:Hid (Blk wb w.heap.size 81 [.int .i64 0,.bool false,.slice none 0 0]):=Qh (by rw[←hwb];exact Blk.new w _ _);have UB:=Qh ub;have LB:=Qh (Recs.upd L ub (fun _ _=>id));have HO:=Qh ho;clear ub L ho
 go_enter Tryz.func171,Tryz.ntmps171
 go_wp2
 go_loopg [13] l.length (fun gk s wr=>∃k:Nat,k+gk=l.length∧s= .int .i64 (k:Int)∧Hid (∀(j:Nat) (hj:j<l.length),j<k→(l[j].id==n)=false)∧Upd No wb wr)
 case atStart=>exact⟨0,by omega,rfl,Qh (fun j _ hj=>by omega),Upd.refl _ _⟩
 case round=>
  obtain⟨k,hgk,rfl,hall,hu⟩:=hrel
  by_cases hlt:k<l.length
  ·obtain⟨ad,hAd,c0,c1,c2⟩:=Zfk (Recs.upd LB.out hu (fun _ _=>id)) hlt;obtain⟨x,hx⟩:∃x,l[k]=x:=⟨_,rfl⟩;simp only[hx]at c0 c1 c2;subst hAd;have X:=Qh hx;have b2:(k:Int)<(l.length:Int):=by omega
   have b1:(0:Int)≤(k:Int):=Qn _;clear hx;obtain⟨wx,hwx⟩:∃wx,wr.alloc (.cells #[.int .i64 x.id,.bool x.done,.slice x.A x.ops.length x.c] 81)=wx:=⟨_,rfl⟩;have ux:Upd No wr wx:=by rw[←hwx];exact(Upd.refl No wr).alloc _
   have bX:Blk wx wr.heap.size 81 [.int .i64 x.id,.bool x.done,.slice x.A x.ops.length x.c]:=by rw[←hwx];exact Blk.new wr _ _
   have d0:∀W,Upd No wx W→W.cell? ⟨wr.heap.size,0,none⟩=some (.int .i64 x.id):=fun W u=>(bX.upd u id).cell 0
   have d1:∀W,Upd No wx W→W.cell? ⟨wr.heap.size,1,none⟩=some (.bool x.done):=fun W u=>(bX.upd u id).cell 1
   have d2:∀W,Upd No wx W→W.cell? ⟨wr.heap.size,2,none⟩=some (.slice x.A x.ops.length x.c):=fun W u=>(bX.upd u id).cell 2
   have hxz:Upd No wx wx:=Upd.refl _ _;have HUX:=Qh (hu.trans ux);have HC:=Qh (dId wx x.id x.done x.A x.ops.length x.c);clear bX ux
   by_cases he:x.id=n
   ·have hsome:=Qh (Zcl (txs:=l) (i:=n) hlt (fun j hj=>hall.out j (by omega) hj) (by rw[X.out];simpa using he));have heb:(x.id==n)=true:=by simpa using he
    clear he
    go_wp2_with fail
    refine(HC.out).mono ?_;rintro e w1 ⟨rfl,hu1⟩;have ba:=B1.out.upd (HUX.out.trans hu1) id;have g0:=ba.cell 0;have k0:=ba.free 0;have g1:=ba.cell 1;have k1:=ba.free 1;have g2:=ba.cell 2;have k2:=ba.free 2;simp only[Qz,Qs]at g0 g1 g2;have BA:=Qh ba;clear ba;go_wp2;have b3:=(((BA.out.set_ 0 (.int .i64 x.id)).set_ 1 (.bool x.done)).set_ 2 (.slice x.A x.ops.length x.c));simp only[List.set_cons_zero,List.set_cons_succ]at b3;have r0:=b3.cell 0;have r1:=b3.cell 1;have r2:=b3.cell 2;simp only[Qz,Qs]at r0 r1 r2;have u3:=Qh (((((UB.out.trans (HUX.out.trans hu1)).setCell (p:=⟨w.heap.size,0,none⟩) (.inr (Nat.le_refl _)) (.int .i64 x.id)).setCell (p:=⟨w.heap.size,1,none⟩) (.inr (Nat.le_refl _)) (.bool x.done)).setCell (p:=⟨w.heap.size,2,none⟩) (.inr (Nat.le_refl _)) (.slice x.A x.ops.length x.c)));refine bodyPost_ret (v:= .tuple #[.agg #[.int .i64 x.id,.bool x.done,.slice x.A x.ops.length x.c],.bool true]) (by simp[results,Tryz.results171,go_sem,r0,r1,r2]) rfl ?_;refine⟨?_,u3.out⟩;have h1:=HO.out;rw[hsome.out,X.out]at h1;rw[←h1];rfl
   ·have heb:(x.id==n)=false:=by simpa using he
    clear he
    go_wp2_with fail
    refine(HC.out).mono ?_;rintro e w1 ⟨rfl,hu1⟩;go_wp2
    go_roundg (gk-1)
    case measure=>omega
    case rel=>exact⟨k+1,by omega,by go_num,Qh (fun j hj hjk=>by
      by_cases e:j=k
      ·subst e;rw[X.out];exact heb
      ·exact hall.out j hj (by omega)),HUX.out.trans hu1⟩
  ·obtain rfl:k=l.length:=by omega
   have hnone:=Qh (ZdA (txs:=l) (i:=n) fun k hk=>hall.out k hk hk);obtain⟨wx,hwx⟩:∃wx,wr.alloc (.cells #[.int .i64 0,.bool false,.slice none 0 0] 81)=wx:=⟨_,rfl⟩;have ux:Upd No wr wx:=by rw[←hwx];exact(Upd.refl No wr).alloc _
   have bX:Blk wx wr.heap.size 81 [.int .i64 0,.bool false,.slice none 0 0]:=by rw[←hwx];exact Blk.new wr _ _
   have d0:∀W,Upd No wx W→W.cell? ⟨wr.heap.size,0,none⟩=some (.int .i64 0):=fun W u=>(bX.upd u id).cell 0
   have d1:∀W,Upd No wx W→W.cell? ⟨wr.heap.size,1,none⟩=some (.bool false):=fun W u=>(bX.upd u id).cell 1
   have d2:∀W,Upd No wx W→W.cell? ⟨wr.heap.size,2,none⟩=some (.slice none 0 0):=fun W u=>(bX.upd u id).cell 2
   have hxz:Upd No wx wx:=Upd.refl _ _;have HUX:=Qh (hu.trans ux);have ba:=B1.out.upd (hu.trans ux) id;have g0:=ba.cell 0;have k0:=ba.free 0;have g1:=ba.cell 1;have k1:=ba.free 1;have g2:=ba.cell 2;have k2:=ba.free 2;simp only[Qz,Qs]at g0 g1 g2;have BA:=Qh ba;clear ba bX ux;go_wp2;have b3:=(((BA.out.set_ 0 (.int .i64 0)).set_ 1 (.bool false)).set_ 2 (.slice none 0 0));simp only[List.set_cons_zero,List.set_cons_succ]at b3;have r0:=b3.cell 0;have r1:=b3.cell 1;have r2:=b3.cell 2;simp only[Qz,Qs]at r0 r1 r2;have u3:=Qh (((((UB.out.trans HUX.out).setCell (p:=⟨w.heap.size,0,none⟩) (.inr (Nat.le_refl _)) (.int .i64 0)).setCell (p:=⟨w.heap.size,1,none⟩) (.inr (Nat.le_refl _)) (.bool false)).setCell (p:=⟨w.heap.size,2,none⟩) (.inr (Nat.le_refl _)) (.slice none 0 0)));refine bodyPost_ret (v:= .tuple #[.agg #[.int .i64 0,.bool false,.slice none 0 0],.bool false]) (by simp[results,Tryz.results171,go_sem,r0,r1,r2]) rfl ?_;refine⟨?_,u3.out⟩;have h1:=HO.out;rw[hnone.out]at h1;rw[←h1];rfl
set_option maxRecDepth 100000 in
set_option maxHeartbeats 1000000 in
theorem Zop {F:Nat→Prop} {w:World} {A:Option Addr} {c:Nat} {l:List HOrd} (L:Recs F w A 2 (l.map HOrd.cells)) (hl:l.length≤4398046511103) (n:Int) {o:Option HOrd} (ho:ZbX l n=o):
  Calls Tryz.prog 173 #[.slice A l.length c,.int .i64 n,.func (.func 82) #[] #[]] w fun e w'=>e= .returned (.tuple #[orV o,.bool o.isSome])∧Upd No w w':=by
 obtain⟨wb,hwb⟩:∃wb,w.alloc (.cells #[.int .i64 0,.slice none 0 0] 100)=wb:=⟨_,rfl⟩;have ub:Upd No w wb:=by rw[←hwb];exact(Upd.refl No w).alloc _
 have B1:Hid (Blk wb w.heap.size 100 [.int .i64 0,.slice none 0 0]):=Qh (by rw[←hwb];exact Blk.new w _ _);have UB:=Qh ub;have LB:=Qh (Recs.upd L ub (fun _ _=>id));have HO:=Qh ho;clear ub L ho
 go_enter Tryz.func173,Tryz.ntmps173
 go_wp2
 go_loopg [13] l.length (fun gk s wr=>∃k:Nat,k+gk=l.length∧s= .int .i64 (k:Int)∧Hid (∀(j:Nat) (hj:j<l.length),j<k→(l[j].key==n)=false)∧Upd No wb wr)
 case atStart=>exact⟨0,by omega,rfl,Qh (fun j _ hj=>by omega),Upd.refl _ _⟩
 case round=>
  obtain⟨k,hgk,rfl,hall,hu⟩:=hrel
  by_cases hlt:k<l.length
  ·obtain⟨ad,hAd,c0,c1⟩:=Zeu (Recs.upd LB.out hu (fun _ _=>id)) hlt;obtain⟨x,hx⟩:∃x,l[k]=x:=⟨_,rfl⟩;simp only[hx]at c0 c1;subst hAd;have X:=Qh hx;have b2:(k:Int)<(l.length:Int):=by omega
   have b1:(0:Int)≤(k:Int):=Qn _;clear hx;obtain⟨wx,hwx⟩:∃wx,wr.alloc (.cells #[.int .i64 x.key,.slice x.A x.txs.length x.c] 100)=wx:=⟨_,rfl⟩;have ux:Upd No wr wx:=by rw[←hwx];exact(Upd.refl No wr).alloc _
   have bX:Blk wx wr.heap.size 100 [.int .i64 x.key,.slice x.A x.txs.length x.c]:=by rw[←hwx];exact Blk.new wr _ _
   have d0:∀W,Upd No wx W→W.cell? ⟨wr.heap.size,0,none⟩=some (.int .i64 x.key):=fun W u=>(bX.upd u id).cell 0
   have d1:∀W,Upd No wx W→W.cell? ⟨wr.heap.size,1,none⟩=some (.slice x.A x.txs.length x.c):=fun W u=>(bX.upd u id).cell 1
   have hxz:Upd No wx wx:=Upd.refl _ _;have HUX:=Qh (hu.trans ux);have HC:=Qh (Zn5 wx x.key x.A x.txs.length x.c);clear bX ux
   by_cases he:x.key=n
   ·have hsome:=Qh (ZjJ (l:=l) (i:=n) hlt (fun j hj=>hall.out j (by omega) hj) (by rw[X.out];simpa using he));have heb:(x.key==n)=true:=by simpa using he
    clear he
    go_wp2_with fail
    refine(HC.out).mono ?_;rintro e w1 ⟨rfl,hu1⟩;have ba:=B1.out.upd (HUX.out.trans hu1) id;have g0:=ba.cell 0;have k0:=ba.free 0;have g1:=ba.cell 1;have k1:=ba.free 1;simp only[Qz,Qs]at g0 g1;have BA:=Qh ba;clear ba;go_wp2;have b3:=((BA.out.set_ 0 (.int .i64 x.key)).set_ 1 (.slice x.A x.txs.length x.c));simp only[List.set_cons_zero,List.set_cons_succ]at b3;have r0:=b3.cell 0;have r1:=b3.cell 1;simp only[Qz,Qs]at r0 r1;have u3:=Qh ((((UB.out.trans (HUX.out.trans hu1)).setCell (p:=⟨w.heap.size,0,none⟩) (.inr (Nat.le_refl _)) (.int .i64 x.key)).setCell (p:=⟨w.heap.size,1,none⟩) (.inr (Nat.le_refl _)) (.slice x.A x.txs.length x.c)));refine bodyPost_ret (v:= .tuple #[.agg #[.int .i64 x.key,.slice x.A x.txs.length x.c],.bool true]) (by simp[results,Tryz.results173,go_sem,r0,r1]) rfl ?_;refine⟨?_,u3.out⟩;have h1:=HO.out;rw[hsome.out,X.out]at h1;rw[←h1];rfl
   ·have heb:(x.key==n)=false:=by simpa using he
    clear he
    go_wp2_with fail
    refine(HC.out).mono ?_;rintro e w1 ⟨rfl,hu1⟩;go_wp2
    go_roundg (gk-1)
    case measure=>omega
    case rel=>exact⟨k+1,by omega,by go_num,Qh (fun j hj hjk=>by
      by_cases e:j=k
      ·subst e;rw[X.out];exact heb
      ·exact hall.out j hj (by omega)),HUX.out.trans hu1⟩
  ·obtain rfl:k=l.length:=by omega
   have hnone:=Qh (ZjK (l:=l) (i:=n) fun k hk=>hall.out k hk hk);obtain⟨wx,hwx⟩:∃wx,wr.alloc (.cells #[.int .i64 0,.slice none 0 0] 100)=wx:=⟨_,rfl⟩;have ux:Upd No wr wx:=by rw[←hwx];exact(Upd.refl No wr).alloc _
   have bX:Blk wx wr.heap.size 100 [.int .i64 0,.slice none 0 0]:=by rw[←hwx];exact Blk.new wr _ _
   have d0:∀W,Upd No wx W→W.cell? ⟨wr.heap.size,0,none⟩=some (.int .i64 0):=fun W u=>(bX.upd u id).cell 0
   have d1:∀W,Upd No wx W→W.cell? ⟨wr.heap.size,1,none⟩=some (.slice none 0 0):=fun W u=>(bX.upd u id).cell 1
   have hxz:Upd No wx wx:=Upd.refl _ _;have HUX:=Qh (hu.trans ux);have ba:=B1.out.upd (hu.trans ux) id;have g0:=ba.cell 0;have k0:=ba.free 0;have g1:=ba.cell 1;have k1:=ba.free 1;simp only[Qz,Qs]at g0 g1;have BA:=Qh ba;clear ba bX ux;go_wp2;have b3:=((BA.out.set_ 0 (.int .i64 0)).set_ 1 (.slice none 0 0));simp only[List.set_cons_zero,List.set_cons_succ]at b3;have r0:=b3.cell 0;have r1:=b3.cell 1;simp only[Qz,Qs]at r0 r1;have u3:=Qh ((((UB.out.trans HUX.out).setCell (p:=⟨w.heap.size,0,none⟩) (.inr (Nat.le_refl _)) (.int .i64 0)).setCell (p:=⟨w.heap.size,1,none⟩) (.inr (Nat.le_refl _)) (.slice none 0 0)));refine bodyPost_ret (v:= .tuple #[.agg #[.int .i64 0,.slice none 0 0],.bool false]) (by simp[results,Tryz.results173,go_sem,r0,r1]) rfl ?_;refine⟨?_,u3.out⟩;have h1:=HO.out;rw[hnone.out]at h1;rw[←h1];rfl
end
/- Deltas:who is there just so (txn.Same,delta.sameOrder,delta.less). -/
section
open Go.RowKit
set_option maxRecDepth 100000 in
theorem Zon {F G:Nat→Prop} {w:World} {i i2:Int} {d d2:Bool} {A B:Option Addr} {c c2:Nat} {l m:List HOp} (h:HOps F w A l) (h2:HOps G w B m) (hl:Zg l.length) (hl2:Zg m.length) {v:Bool} (hv:(i==i2&&(d==d2&&(l==m)))=v):
  Calls Tryz.prog 80 #[.agg #[.int .i64 i,.bool d,.slice A l.length c],.agg #[.int .i64 i2,.bool d2,.slice B m.length c2]] w fun e w'=>e= .returned (.bool v)∧Upd No w w':=by
 have ub:Upd No w ((w.alloc (.cells #[.int .i64 i,.bool d,.slice A l.length c] 81)).alloc (.cells #[.int .i64 i2,.bool d2,.slice B m.length c2] 81)):=((Upd.refl No w).alloc _).alloc _;have UB:=Qh ub
 by_cases hi:i=i2
 ·have hib:(i==i2)=true:=by simpa using hi
  by_cases hd:d=d2
  ·have hdb:(d==d2)=true:=by simpa using hd
   rw[hib,hdb,Bool.true_and,Bool.true_and]at hv;have CS:=Qh (ZlU F G _ A B c c2 l m (HOps.upd h ub (fun _ _=>id)) (HOps.upd h2 ub (fun _ _=>id)) hl hl2 hv);clear ub hi hd hv h h2
   go_enter Tryz.func80,Tryz.ntmps80
   go_wp2_with fail
   refine(CS.out).mono ?_;rintro e w1 ⟨rfl,hu1⟩;go_wp2
   go_ret
   exact⟨rfl,UB.out.trans hu1⟩
  ·have hdb:(d==d2)=false:=by simpa using hd
   rw[hib,hdb,Bool.true_and,Bool.false_and]at hv;subst hv;clear ub hi hd h h2
   go_enter Tryz.func80,Tryz.ntmps80
   go_wp2
   go_ret
   exact⟨rfl,UB.out⟩
 ·have hib:(i==i2)=false:=by simpa using hi
  rw[hib,Bool.false_and]at hv;subst hv;clear ub hi h h2
  go_enter Tryz.func80,Tryz.ntmps80
  go_wp2
  go_ret
  exact⟨rfl,UB.out⟩
set_option maxRecDepth 100000 in
theorem Zmf {F G:Nat→Prop} {w:World} {i i2:Int} {A B:Option Addr} {c c2:Nat} {l m:List Int} (h:Ints F w A l) (h2:Ints G w B m) (hl:l.length≤17592186044415) (hl2:m.length≤17592186044415) {v:Bool} (hv:(i==i2&&(l==m))=v):
  Calls Tryz.prog 83 #[.agg #[.int .i64 i,.slice A l.length c],.agg #[.int .i64 i2,.slice B m.length c2]] w fun e w'=>e= .returned (.bool v)∧Upd No w w':=by
 have ub:Upd No w ((w.alloc (.cells #[.int .i64 i,.slice A l.length c] 100)).alloc (.cells #[.int .i64 i2,.slice B m.length c2] 100)):=((Upd.refl No w).alloc _).alloc _;have UB:=Qh ub
 by_cases hi:i=i2
 ·have hib:(i==i2)=true:=by simpa using hi
  rw[hib,Bool.true_and]at hv;have CS:=Qh (ZoC F G _ A B c c2 l m (h.upd ub (fun _ _=>id)) (h2.upd ub (fun _ _=>id)) hl hl2 hv);clear ub hi hv h h2
  go_enter Tryz.func83,Tryz.ntmps83
  go_wp2_with fail
  refine(CS.out).mono ?_;rintro e w1 ⟨rfl,hu1⟩;go_wp2
  go_ret
  exact⟨rfl,UB.out.trans hu1⟩
 ·have hib:(i==i2)=false:=by simpa using hi
  rw[hib,Bool.false_and]at hv;subst hv;clear ub hi h h2
  go_enter Tryz.func83,Tryz.ntmps83
  go_wp2
  go_ret
  exact⟨rfl,UB.out⟩
theorem ZeU:SlT Tryz.prog 26 81 3 40:=SlT.mk_ Tryz.underlying26 (z:= .agg #[.int .i64 0,.bool false,.slice none 0 0]) (by kernel_rfl) rfl (by omega)
theorem ZaW:SlT Tryz.prog 27 100 2 32:=SlT.mk_ Tryz.underlying27 (z:= .agg #[.int .i64 0,.slice none 0 0]) (by kernel_rfl) rfl (by omega)
def txF (l:List HTx):List Value:=(l.map HTx.cells).flatten
def orF (l:List HOrd):List Value:=(l.map HOrd.cells).flatten
theorem ZeR (l:List HTx) (x:HTx):txF (l++[x])=txF l++x.cells:=by unfold txF;simp
theorem Ze0 (l:List HOrd) (x:HOrd):orF (l++[x])=orF l++x.cells:=by unfold orF;simp
theorem Zhx {l:List HTx}:∀r∈l.map HTx.cells,r.length=3:=fun r hr=>by
 obtain⟨e,_,rfl⟩:=List.mem_map.1 hr;rfl
theorem Zc3 {l:List HOrd}:∀r∈l.map HOrd.cells,r.length=2:=fun r hr=>by
 obtain⟨e,_,rfl⟩:=List.mem_map.1 hr;rfl
theorem ZbY {α:Type} {l:List α} {k:Nat} {x:α} (p:α→Bool) (hk:k<l.length) (hx:l[k]=x):(l.take (k+1)).filter p=(l.take k).filter p++if p x then [x] else []:=by
 subst hx;rw[List.take_succ_eq_append_getElem hk,List.filter_append]
 congr 1
 rw[List.filter_cons];rfl
theorem Zk0 {l:List HOrd} {i:Int} {x:HOrd} (h:ZbX l i=some x):x∈l∧x.key=i:=by
 unfold ZbX at h;exact⟨List.mem_of_find?_eq_some h,by simpa using List.find?_some h⟩
set_option maxRecDepth 100000 in
set_option maxHeartbeats 2000000 in
theorem Zk4 {F G:Nat→Prop} {w:World} {A B:Option Addr} {c d:Nat} {la lb:List HTx} (HA:Recs F w A 3 (la.map HTx.cells)) (HB:Recs G w B 3 (lb.map HTx.cells)) (ta:∀t∈la,t.lies F w) (tb:∀t∈lb,t.lies G w) (hla:la.length≤1000000) (hlb:lb.length≤1000000):
  Calls Tryz.prog 78 #[.slice A la.length c,.slice B lb.length d,.func (.func 79) #[] #[],.func (.func 80) #[] #[]] w fun e w'=>∃A' c',e= .returned (.slice A' (Zj la lb).length c')∧
   w'.ownsRow w.heap.size 81 3 (.slice A' (Zj la lb).length c') (Zj la lb).length (txF (Zj la lb))∧Upd No w w':=by
 have HAH:=Qh HA;have HBH:=Qh HB;have TA:=Qh ta;have TB:=Qh tb;clear HA HB ta tb
 go_enter Tryz.func78,Tryz.ntmps78
 go_wp2
 go_loopg [9,16] la.length (fun gk s i wr=>∃(k:Nat) (A5:Option Addr) (c5:Nat) (xs:List HTx),k+gk=la.length∧i= .int .i64 (k:Int)∧s= .slice A5 xs.length c5∧Hid (xs=Zj (la.take k) lb)∧Hid (wr.ownsRow w.heap.size 81 3 (.slice A5 xs.length c5) xs.length (txF xs))∧Upd No w wr)
 case atStart=>exact⟨0,none,0,[],by omega,rfl,rfl,Qh rfl,Qh (World.ownsRow_nil _ _ _ _),Upd.refl _ _⟩
 case round=>
  obtain⟨k,A5,c5,xs,hgk,rfl,rfl,hs,hown,hu⟩:=hrel
  have hxl:xs.length≤1000000:=by
   rw[hs.out];have h1:(Zj (la.take k) lb).length≤(la.take k).length:=List.length_filter_le _ _;have h2:=List.length_take_le k la;omega
  by_cases hlt:k<la.length
  ·obtain⟨ad,hAd,c0,c1,c2⟩:=Zfk (Recs.upd HAH.out hu (fun _ _=>id)) hlt;have htx:=(TA.out la[k] (List.getElem_mem hlt)).upd hu (fun _ _=>id);obtain⟨x,hx⟩:∃x,la[k]=x:=⟨_,rfl⟩;simp only[hx]at c0 c1 c2 htx;subst hAd
   have HS:=Qh (show Zj (la.take (k+1)) lb=xs++if Zdy lb x then [] else [x] by
    rw[hs.out];unfold Zj;rw[ZbY _ hlt hx]
    cases Zdy lb x<;>rfl)
   have HTX:=Qh htx;have b2:(k:Int)<(la.length:Int):=by omega
   have b1:(0:Int)≤(k:Int):=Qn _;clear hx htx;obtain⟨wx,hwx⟩:∃wx,wr.alloc (.cells #[.int .i64 x.id,.bool x.done,.slice x.A x.ops.length x.c] 81)=wx:=⟨_,rfl⟩;have ux:Upd No wr wx:=by rw[←hwx];exact(Upd.refl No wr).alloc _
   have bX:Blk wx wr.heap.size 81 [.int .i64 x.id,.bool x.done,.slice x.A x.ops.length x.c]:=by rw[←hwx];exact Blk.new wr _ _
   have HZ:=Qh (show wx.heap.size=wr.heap.size+1 by rw[←hwx];simp);have d0:∀W,Upd No wx W→W.cell? ⟨wr.heap.size,0,none⟩=some (.int .i64 x.id):=fun W u=>(bX.upd u id).cell 0
   have d1:∀W,Upd No wx W→W.cell? ⟨wr.heap.size,1,none⟩=some (.bool x.done):=fun W u=>(bX.upd u id).cell 1
   have d2:∀W,Upd No wx W→W.cell? ⟨wr.heap.size,2,none⟩=some (.slice x.A x.ops.length x.c):=fun W u=>(bX.upd u id).cell 2
   have hxz:Upd No wx wx:=Upd.refl _ _;have HUX:=Qh (hu.trans ux);have HUR:=Qh ux;have HO:=Qh (Zb hown.out ux (fun _ _=>id));have HC:=Qh (dId wx x.id x.done x.A x.ops.length x.c);obtain⟨o,ho⟩:∃o,Ze lb x.id=o:=⟨_,rfl⟩;have HF:=Qh ho;clear bX ux hown ho
   go_wp2_with fail
   refine(HC.out).mono ?_;rintro e w1 ⟨rfl,hu1⟩;have HK:=Qh (Zoo (c:=d) (Recs.upd HBH.out (HUX.out.trans hu1) (fun _ _=>id)) (by omega) x.id HF.out)
   cases o with
   |none=>
    have HN:=Qh (show Zdy lb x=false by unfold Zdy;rw[HF.out]);have hkc:Calls Tryz.prog 171 #[.slice B lb.length d,.int .i64 x.id,.func (.func 79) #[] #[]] w1 fun e w'=>e= .returned (.tuple #[.agg #[.int .i64 0,.bool false,.slice none 0 0],.bool false])∧Upd No w1 w':=HK.out
    have HKC:=Qh hkc;clear hkc
    go_wp2_with fail
    refine(HKC.out).mono ?_;rintro e w2 ⟨rfl,hu2⟩;have hu2x:=hu1.trans hu2;have HO3:=Qh (Zb (Zb HO.out hu2x (fun _ _=>id)) ((Upd.refl No w2).alloc (.cells #[.int .i64 0,.bool false,.slice none 0 0] 81)) (fun _ _=>id));have hu3:Upd No wx (w2.alloc (.cells #[.int .i64 0,.bool false,.slice none 0 0] 81)):=hu2x.alloc _;have hz3:=hu3.size;have hz0:=hu.size;have hzz:=HZ.out
    go_wp2_with (at_builtin;refine Zag rfl rfl ZeU (v:= .slice A5 xs.length c5) (n:=xs.length) (xs:=txF xs) (cells:=[.int .i64 x.id,.bool x.done,.slice x.A x.ops.length x.c]) (by rfl) (by rw[World.size_alloc];rfl) HO3.out rfl rfl (by omega) (by omega) (by omega) ?_;intro g6 c6 w6 hown6 hu6 hg6 hlt6)
    go_roundg (gk-1)
    case measure=>omega
    case rel=>
     have hl1:(xs++[x]).length=xs.length+1:=by simp
     exact⟨k+1,some ⟨g6,0,none⟩,c6,xs++[x],by omega,by go_num,by rw[hl1],Qh (by rw[HS.out,HN.out];rfl),Qh (by rw[hl1,ZeR];exact hown6),(HUX.out.trans hu3).then_ hu6 (fun i e=>Or.inr (HO3.out.lt i e).1)⟩
   |some y=>
    have hkc:Calls Tryz.prog 171 #[.slice B lb.length d,.int .i64 x.id,.func (.func 79) #[] #[]] w1 fun e w'=>e= .returned (.tuple #[.agg #[.int .i64 y.id,.bool y.done,.slice y.A y.ops.length y.c],.bool true])∧Upd No w1 w':=HK.out
    have HKC:=Qh hkc;have HYM:=Qh (Zb7 HF.out);obtain⟨v,hv⟩:∃v,ZhB x y=v:=⟨_,rfl⟩;have HN:=Qh (show Zdy lb x=v by unfold Zdy;rw[HF.out];exact hv);have HV:=Qh hv;clear hkc hv
    go_wp2_with fail
    refine(HKC.out).mono ?_;rintro e w2 ⟨rfl,hu2⟩;have hu2x:=hu1.trans hu2;obtain⟨w3,hw3⟩:∃w3,w2.alloc (.cells #[.int .i64 y.id,.bool y.done,.slice y.A y.ops.length y.c] 81)=w3:=⟨_,rfl⟩;have bY:Blk w3 w2.heap.size 81 [.int .i64 y.id,.bool y.done,.slice y.A y.ops.length y.c]:=by rw[←hw3];exact Blk.new w2 _ _
    have e0:∀W,Upd No w3 W→W.cell? ⟨w2.heap.size,0,none⟩=some (.int .i64 y.id):=fun W u=>(bY.upd u id).cell 0
    have e1:∀W,Upd No w3 W→W.cell? ⟨w2.heap.size,1,none⟩=some (.bool y.done):=fun W u=>(bY.upd u id).cell 1
    have e2:∀W,Upd No w3 W→W.cell? ⟨w2.heap.size,2,none⟩=some (.slice y.A y.ops.length y.c):=fun W u=>(bY.upd u id).cell 2
    have hu3:Upd No wx w3:=by rw[←hw3];exact hu2x.alloc _
    have hyz:Upd No w3 w3:=Upd.refl _ _;have hz3:=hu3.size;have hz0:=hu.size;have hzz:=HZ.out;have HU3:=Qh hu3;have CS:=Qh (Zon (w:=w3) (i:=x.id) (i2:=y.id) (d:=x.done) (d2:=y.done) (c:=x.c) (c2:=y.c) (HOps.upd HTX.out.1 (HUR.out.trans hu3) (fun _ _=>id)) (HOps.upd (TB.out y HYM.out).1 (HUX.out.trans hu3) (fun _ _=>id)) HTX.out.2.2.1 (TB.out y HYM.out).2.2.1 HV.out);clear bY
    cases v with
    |false=>
     go_wp2_with fail
     refine(CS.out).mono ?_;rintro e w4 ⟨rfl,hu4⟩;have hu4x:Upd No wx w4:=HU3.out.trans hu4;have HO4:=Qh (Zb HO.out hu4x (fun _ _=>id));have hz4:=hu4.size
     go_wp2_with (at_builtin;refine Zag rfl rfl ZeU (v:= .slice A5 xs.length c5) (n:=xs.length) (xs:=txF xs) (cells:=[.int .i64 x.id,.bool x.done,.slice x.A x.ops.length x.c]) (by rfl) rfl HO4.out rfl rfl (by omega) (by omega) (by omega) ?_;intro g6 c6 w6 hown6 hu6 hg6 hlt6)
     go_roundg (gk-1)
     case measure=>omega
     case rel=>
      have hl1:(xs++[x]).length=xs.length+1:=by simp
      exact⟨k+1,some ⟨g6,0,none⟩,c6,xs++[x],by omega,by go_num,by rw[hl1],Qh (by rw[HS.out,HN.out];rfl),Qh (by rw[hl1,ZeR];exact hown6),(HUX.out.trans hu4x).then_ hu6 (fun i e=>Or.inr (HO4.out.lt i e).1)⟩
    |true=>
     go_wp2_with fail
     refine(CS.out).mono ?_;rintro e w4 ⟨rfl,hu4⟩;have hu4x:Upd No wx w4:=HU3.out.trans hu4;have HO4:=Qh (Zb HO.out hu4x (fun _ _=>id));go_wp2
     go_roundg (gk-1)
     case measure=>omega
     case rel=>exact⟨k+1,A5,c5,xs,by omega,by go_num,rfl,Qh (by rw[HS.out,HN.out];simp),HO4,HUX.out.trans hu4x⟩
  ·obtain rfl:k=la.length:=by omega
   have HX:=Qh (show Zj la lb=xs by rw[hs.out,List.take_length]);have HOW:=Qh hown.out;clear hown;go_wp2
   go_ret
   rw[HX.out];exact⟨A5,c5,rfl,HOW.out,hu⟩
set_option maxRecDepth 100000 in
set_option maxHeartbeats 2000000 in
theorem Zk5 {F G:Nat→Prop} {w:World} {A B:Option Addr} {c d:Nat} {la lb:List HOrd} (HA:Recs F w A 2 (la.map HOrd.cells)) (HB:Recs G w B 2 (lb.map HOrd.cells)) (ta:∀t∈la,t.lies F w) (tb:∀t∈lb,t.lies G w) (hla:la.length≤1000000) (hlb:lb.length≤1000000):
  Calls Tryz.prog 81 #[.slice A la.length c,.slice B lb.length d,.func (.func 82) #[] #[],.func (.func 83) #[] #[]] w fun e w'=>∃A' c',e= .returned (.slice A' (Zo la lb).length c')∧
   w'.ownsRow w.heap.size 100 2 (.slice A' (Zo la lb).length c') (Zo la lb).length (orF (Zo la lb))∧Upd No w w':=by
 have HAH:=Qh HA;have HBH:=Qh HB;have TA:=Qh ta;have TB:=Qh tb;clear HA HB ta tb
 go_enter Tryz.func81,Tryz.ntmps81
 go_wp2
 go_loopg [9,16] la.length (fun gk s i wr=>∃(k:Nat) (A5:Option Addr) (c5:Nat) (xs:List HOrd),k+gk=la.length∧i= .int .i64 (k:Int)∧s= .slice A5 xs.length c5∧Hid (xs=Zo (la.take k) lb)∧Hid (wr.ownsRow w.heap.size 100 2 (.slice A5 xs.length c5) xs.length (orF xs))∧Upd No w wr)
 case atStart=>exact⟨0,none,0,[],by omega,rfl,rfl,Qh rfl,Qh (World.ownsRow_nil _ _ _ _),Upd.refl _ _⟩
 case round=>
  obtain⟨k,A5,c5,xs,hgk,rfl,rfl,hs,hown,hu⟩:=hrel
  have hxl:xs.length≤1000000:=by
   rw[hs.out];have h1:(Zo (la.take k) lb).length≤(la.take k).length:=List.length_filter_le _ _;have h2:=List.length_take_le k la;omega
  by_cases hlt:k<la.length
  ·obtain⟨ad,hAd,c0,c1⟩:=Zeu (Recs.upd HAH.out hu (fun _ _=>id)) hlt;have htx:=(TA.out la[k] (List.getElem_mem hlt)).upd hu (fun _ _=>id);obtain⟨x,hx⟩:∃x,la[k]=x:=⟨_,rfl⟩;simp only[hx]at c0 c1 htx;subst hAd
   have HS:=Qh (show Zo (la.take (k+1)) lb=xs++if Zdz lb x then [] else [x] by
    rw[hs.out];unfold Zo;rw[ZbY _ hlt hx]
    cases Zdz lb x<;>rfl)
   have HTX:=Qh htx;have b2:(k:Int)<(la.length:Int):=by omega
   have b1:(0:Int)≤(k:Int):=Qn _;clear hx htx;obtain⟨wx,hwx⟩:∃wx,wr.alloc (.cells #[.int .i64 x.key,.slice x.A x.txs.length x.c] 100)=wx:=⟨_,rfl⟩;have ux:Upd No wr wx:=by rw[←hwx];exact(Upd.refl No wr).alloc _
   have bX:Blk wx wr.heap.size 100 [.int .i64 x.key,.slice x.A x.txs.length x.c]:=by rw[←hwx];exact Blk.new wr _ _
   have HZ:=Qh (show wx.heap.size=wr.heap.size+1 by rw[←hwx];simp);have d0:∀W,Upd No wx W→W.cell? ⟨wr.heap.size,0,none⟩=some (.int .i64 x.key):=fun W u=>(bX.upd u id).cell 0
   have d1:∀W,Upd No wx W→W.cell? ⟨wr.heap.size,1,none⟩=some (.slice x.A x.txs.length x.c):=fun W u=>(bX.upd u id).cell 1
   have hxz:Upd No wx wx:=Upd.refl _ _;have HUX:=Qh (hu.trans ux);have HUR:=Qh ux;have HO:=Qh (Zb hown.out ux (fun _ _=>id));have HC:=Qh (Zn5 wx x.key x.A x.txs.length x.c);obtain⟨o,ho⟩:∃o,ZbX lb x.key=o:=⟨_,rfl⟩;have HF:=Qh ho;clear bX ux hown ho
   go_wp2_with fail
   refine(HC.out).mono ?_;rintro e w1 ⟨rfl,hu1⟩;have HK:=Qh (Zop (c:=d) (Recs.upd HBH.out (HUX.out.trans hu1) (fun _ _=>id)) (by omega) x.key HF.out)
   cases o with
   |none=>
    have HN:=Qh (show Zdz lb x=false by unfold Zdz;rw[HF.out]);have hkc:Calls Tryz.prog 173 #[.slice B lb.length d,.int .i64 x.key,.func (.func 82) #[] #[]] w1 fun e w'=>e= .returned (.tuple #[.agg #[.int .i64 0,.slice none 0 0],.bool false])∧Upd No w1 w':=HK.out
    have HKC:=Qh hkc;clear hkc
    go_wp2_with fail
    refine(HKC.out).mono ?_;rintro e w2 ⟨rfl,hu2⟩;have hu2x:=hu1.trans hu2;have HO3:=Qh (Zb (Zb HO.out hu2x (fun _ _=>id)) ((Upd.refl No w2).alloc (.cells #[.int .i64 0,.slice none 0 0] 100)) (fun _ _=>id));have hu3:Upd No wx (w2.alloc (.cells #[.int .i64 0,.slice none 0 0] 100)):=hu2x.alloc _;have hz3:=hu3.size;have hz0:=hu.size;have hzz:=HZ.out
    go_wp2_with (at_builtin;refine Zag rfl rfl ZaW (v:= .slice A5 xs.length c5) (n:=xs.length) (xs:=orF xs) (cells:=[.int .i64 x.key,.slice x.A x.txs.length x.c]) (by rfl) (by rw[World.size_alloc];rfl) HO3.out rfl rfl (by omega) (by omega) (by omega) ?_;intro g6 c6 w6 hown6 hu6 hg6 hlt6)
    go_roundg (gk-1)
    case measure=>omega
    case rel=>
     have hl1:(xs++[x]).length=xs.length+1:=by simp
     exact⟨k+1,some ⟨g6,0,none⟩,c6,xs++[x],by omega,by go_num,by rw[hl1],Qh (by rw[HS.out,HN.out];rfl),Qh (by rw[hl1,Ze0];exact hown6),(HUX.out.trans hu3).then_ hu6 (fun i e=>Or.inr (HO3.out.lt i e).1)⟩
   |some y=>
    have hkc:Calls Tryz.prog 173 #[.slice B lb.length d,.int .i64 x.key,.func (.func 82) #[] #[]] w1 fun e w'=>e= .returned (.tuple #[.agg #[.int .i64 y.key,.slice y.A y.txs.length y.c],.bool true])∧Upd No w1 w':=HK.out
    have HKC:=Qh hkc;have HYM:=Qh (Zk0 HF.out);obtain⟨v,hv⟩:∃v,ZhC x y=v:=⟨_,rfl⟩;have HN:=Qh (show Zdz lb x=v by unfold Zdz;rw[HF.out];exact hv);have HV:=Qh hv;clear hkc hv
    go_wp2_with fail
    refine(HKC.out).mono ?_;rintro e w2 ⟨rfl,hu2⟩;have hu2x:=hu1.trans hu2;obtain⟨w3,hw3⟩:∃w3,w2.alloc (.cells #[.int .i64 y.key,.slice y.A y.txs.length y.c] 100)=w3:=⟨_,rfl⟩;have bY:Blk w3 w2.heap.size 100 [.int .i64 y.key,.slice y.A y.txs.length y.c]:=by rw[←hw3];exact Blk.new w2 _ _
    have e0:∀W,Upd No w3 W→W.cell? ⟨w2.heap.size,0,none⟩=some (.int .i64 y.key):=fun W u=>(bY.upd u id).cell 0
    have e1:∀W,Upd No w3 W→W.cell? ⟨w2.heap.size,1,none⟩=some (.slice y.A y.txs.length y.c):=fun W u=>(bY.upd u id).cell 1
    have hu3:Upd No wx w3:=by rw[←hw3];exact hu2x.alloc _
    have hyz:Upd No w3 w3:=Upd.refl _ _;have hz3:=hu3.size;have hz0:=hu.size;have hzz:=HZ.out;have HU3:=Qh hu3;have CS:=Qh (Zmf (w:=w3) (i:=x.key) (i2:=y.key) (c:=x.c) (c2:=y.c) (HTX.out.1.upd (HUR.out.trans hu3) (fun _ _=>id)) ((TB.out y HYM.out.1).1.upd (HUX.out.trans hu3) (fun _ _=>id)) HTX.out.2.2.1 (TB.out y HYM.out.1).2.2.1 HV.out);clear bY
    cases v with
    |false=>
     go_wp2_with fail
     refine(CS.out).mono ?_;rintro e w4 ⟨rfl,hu4⟩;have hu4x:Upd No wx w4:=HU3.out.trans hu4;have HO4:=Qh (Zb HO.out hu4x (fun _ _=>id));have hz4:=hu4.size
     go_wp2_with (at_builtin;refine Zag rfl rfl ZaW (v:= .slice A5 xs.length c5) (n:=xs.length) (xs:=orF xs) (cells:=[.int .i64 x.key,.slice x.A x.txs.length x.c]) (by rfl) rfl HO4.out rfl rfl (by omega) (by omega) (by omega) ?_;intro g6 c6 w6 hown6 hu6 hg6 hlt6)
     go_roundg (gk-1)
     case measure=>omega
     case rel=>
      have hl1:(xs++[x]).length=xs.length+1:=by simp
      exact⟨k+1,some ⟨g6,0,none⟩,c6,xs++[x],by omega,by go_num,by rw[hl1],Qh (by rw[HS.out,HN.out];rfl),Qh (by rw[hl1,Ze0];exact hown6),(HUX.out.trans hu4x).then_ hu6 (fun i e=>Or.inr (HO4.out.lt i e).1)⟩
    |true=>
     go_wp2_with fail
     refine(CS.out).mono ?_;rintro e w4 ⟨rfl,hu4⟩;have hu4x:Upd No wx w4:=HU3.out.trans hu4;have HO4:=Qh (Zb HO.out hu4x (fun _ _=>id));go_wp2
     go_roundg (gk-1)
     case measure=>omega
     case rel=>exact⟨k+1,A5,c5,xs,by omega,by go_num,rfl,Qh (by rw[HS.out,HN.out];simp),HO4,HUX.out.trans hu4x⟩
  ·obtain rfl:k=la.length:=by omega
   have HX:=Qh (show Zo la lb=xs by rw[hs.out,List.take_length]);have HOW:=Qh hown.out;clear hown;go_wp2
   go_ret
   rw[HX.out];exact⟨A5,c5,rfl,HOW.out,hu⟩
end
end Go.Proofs.YtblplapkdmhikaaGreat
