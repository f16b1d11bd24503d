/- Slices of ints: cloned, held against one another. -/
import Derived.Test.YtadmgiljchgccaaGreatLayEqualI
import Derived.Lib.SlicesCompact
import Derived.Test.YtadmgiljchgccaaGreatTcab
namespace Go.Proofs.YtadmgiljchgccaaGreat
open Go.RowKit
set_option linter.unusedVariables false
set_option linter.unusedSimpArgs false
set_option maxRecDepth 100000
theorem Zay:SlT Tryz.prog 27 3 1 8:=SlT.mk_ Tryz.underlying27 (z:= Qi 0) (by kernel_rfl) rfl (by omega)
def Zcs(w:I0)(l:Iv)(e:Ending)(w':I0):Prop:=∃A c,e= .returned (.slice A l.length c)∧w'.ownsRow w.heap.size 3 1 (.slice A l.length c) l.length (l.map (Value.int .i64))∧Upd No w w'
theorem ZsH{W:I0}{B n:Nat}{e:Iy}(hn:n=W.heap.size)(hB:B<=W.heap.size):(W.alloc (.cells #[] e)).ownsRow B e 1 (.slice (some ⟨n,0,none⟩) 0 0) 0 []:=by
 subst hn;exact ZK (World.ownsRow_made W #[] 0 (Nat.le_refl _) (by decide) (by simp)) hB
theorem ZfG(F:Iw)(w:I0)(A:OA)(c:Nat)(l:Iv)(h:Ints F w A l)(hl:l.length<=17592186044415):
  Calls Tryz.prog 70 #[.slice A l.length c] w (Zcs w l):=by
 have qT:∀(w:I0) (a:OA) (n c:Nat),(binOp .eql 27 (.slice a n c) (.slice none 0 0)).run Tryz.prog w= .ok (.bool a.isNone) w:=fun w a n c=>Lib.run_eql_slice_nil w _ _ a n c 0 0 Tryz.underlying27
 cases A with
 |none=>
  have h0:l=[]:=by
   cases l with
   |nil=>rfl
   |cons a l=>obtain⟨_,e,_⟩:=h (by simp);cases e
  subst h0;go_enter Tryz.func70,Tryz.ntmps70;go_wp2;go_ret;exact⟨none,0,rfl,Ik _ _ _ _,Il _ _⟩
 |some ad=>
  have hs:Hid (Src (w.alloc (.cells #[] 3)) (some ad) l.length 1 (l.map (Value.int .i64))):=Qh (Ints.src (h.upd ((Il No w).alloc (.cells #[] 3)) Qo));go_enter Tryz.func70,Tryz.ntmps70;go_wp2_with (at_builtin;refine Ziq rfl rfl Zay (base:=w.heap.size) (v:= .slice (some ⟨w.heap.size,0,none⟩) 0 0) (n:=0) (m:=l.length) (xs:=[]) rfl rfl (ZsH rfl (Nat.le_refl _)) hs.out (Ints.one_ l) (by omega) (by omega) (by simp) ?_);intro v4 w4 aF hu4 dd;obtain⟨A4,c4,rfl⟩:=Zaz aF;have uw4:Upd No w w4:=((Il No w).alloc _).then_ hu4 (fun j e=> .inr (ZiN e));go_wp2;go_ret;exact⟨A4,c4,rfl,aF,uw4⟩
def Z1(l:Iv):Iv:=l.mergeSort fun x y=>decide (x<=y)
theorem Zbk(l:Iv):(Z1 l).length=l.length:=List.length_mergeSort ..
theorem ZmF{w:I0}{a:Addr}{v:Iz}(h:w.cell? a=some v):a=⟨a.block,a.off,none⟩:=by
 obtain⟨b,o,s⟩:=a
 cases s with
 |none=>rfl
 |some s=>
  unfold World.cell? at h
  split at h
  ·simp at h
  ·cases h
theorem ZjQ(b o j:Nat):(⟨b,o,none⟩:Addr).add j=⟨b,o+j,none⟩:=by unfold Addr.add;split<;>simp_all
theorem Ints.cells_{F:Iw}{w:I0}{A:OA}{l:Iv}(h:Ints F w A l)(hne:l≠[]):∃b o,A=some ⟨b,o,none⟩∧∀j,j<l.length->w.cell? ⟨b,o+j,none⟩=some (Qi (l.getD j 0)):=by
 obtain⟨ad,e,_,_,hc⟩:=h hne;have h0:0<l.length:=List.length_pos_iff.2 hne;have c0:=hc 0 _ (Qg h0);have ha:ad.add 0=ad:=by unfold Addr.add;simp
 rw[ha]at c0;have hf:=ZmF c0;refine⟨ad.block,ad.off,by rw[e,<-hf],fun j hj=>?_⟩;have cj:=hc j _ (Qg hj);rw[hf]at cj;rw[ZjQ]at cj;rw[cj,List.getD_eq_getElem?_getD,Qg hj];rfl
theorem Zwf(F G:Iw)(w:I0)(A B:OA)(c d:Nat)(xs ys:Iv)(hx:Ints F w A xs)(hy:Ints G w B ys)(hl:xs.length<=17592186044415)(bC:ys.length<=17592186044415):
  CN 71 #[.slice A xs.length c,.slice B ys.length d] w (.bool (xs==ys)):=by
 by_cases h0:xs=[]
 ·subst h0;refine Calls.mono (AnyG.slices_Equal_int_empty equalI_lay A B c ys.length d w (by omega)) ?_;rintro e w' ⟨rfl,rfl⟩;refine⟨?_,Il _ _⟩
  cases ys<;>rfl
 ·by_cases h1:ys=[]
  ·subst h1;have hne:0<xs.length:=List.length_pos_iff.2 h0;have hf:(xs==[])=false:=by rw[beq_eq_false_iff_ne];exact h0
   have hb:((xs.length:Int) != ((0:Nat):Int))=true:=by rw[bne_iff_ne];omega
   have Hf:=Qh hf;clear hf h0;go_enter Tryz.func71,Tryz.ntmps71;go_wp2;go_ret;exact⟨by rw[Hf.out];rfl,Il _ _⟩
  ·obtain⟨b1,o1,rfl,dP⟩:=hx.cells_ h0;obtain⟨b2,o2,rfl,gR⟩:=hy.cells_ h1;refine Calls.mono (AnyG.slices_Equal_int equalI_lay b1 o1 xs.length c b2 o2 ys.length d xs ys w (Nat.le_refl _) (Nat.le_refl _) (by omega) (by omega) dP gR) ?_;rintro e w' ⟨rfl,q,rfl⟩;rw[G7,G7];exact⟨rfl,(Il _ _).drewN q⟩
theorem Ints.of_owned{w:I0}{base:Nat}{A:OA}{c:Nat}{l:Iv}(h:w.ownsRow base 3 1 (.slice A l.length c) l.length (l.map (Value.int .i64))):Ints (fun i=>base<=i) w A l:=Ints.of_own h
def ZiM(a b:Iv):Bool:=Z1 a==Z1 b
/- Lists of numbers:sorted by putting one after another,each once. -/
def Zh8(x:Int):Iv->List Int
 |[]=>[x]
 |y::l=>if x<=y then x::y::l else y::Zh8 x l
def Zbu:Iv->List Int
 |[]=>[]
 |x::l=>Zh8 x (Zbu l)
theorem ZgV(x:Int):∀l:Iv,(Zh8 x l).Perm (x::l)
 |[]=>List.Perm.refl _
 |y::l=>by
  unfold Zh8
  split
  ·exact List.Perm.refl _
  ·exact((ZgV x l).cons y).trans (List.Perm.swap x y l)
theorem Zat:∀l:Iv,(Zbu l).Perm l
 |[]=>List.Perm.refl _
 |x::l=>(ZgV x _).trans ((Zat l).cons x)
theorem Zn1(x:Int):∀l:Iv,l.Pairwise (·<=·)->(Zh8 x l).Pairwise (·<=·)
 |[],_=>by simp[Zh8]
 |y::l,h=>by
  rw[Gr]at h;unfold Zh8
  split
  ·rename_i hxy
   rw[Gr];refine⟨fun a ha=>?_,Gr.2 h⟩;rcases Ie.1 ha with rfl|ha
   ·exact hxy
   ·exact Int.le_trans hxy (h.1 a ha)
  ·rename_i hxy
   rw[Gr];refine⟨fun a ha=>?_,Zn1 x l h.2⟩;rcases Ie.1 ((ZgV x l).mem_iff.1 ha)with rfl|ha
   ·omega
   ·exact h.1 a ha
theorem Zdg:∀l:Iv,(Zbu l).Pairwise (·<=·)
 |[]=>List.Pairwise.nil
 |x::l=>Zn1 x _ (Zdg l)
theorem Zsf(l:Iv):(Z1 l).Pairwise (·<=·):=by
 have:=List.pairwise_mergeSort (le:=fun x y:Int=>decide (x<=y)) (fun a b c h k=>by simp only[Gw]at*;omega) (fun a b=>by simp only[Ia,Gw];omega) l;unfold Z1;exact this.imp fun h=>by simpa using h
theorem ZgD{a b:Iv}(h:a.Perm b)(ha:a.Pairwise (·<=·))(hb:b.Pairwise (·<=·)):a=b:=
 List.Perm.eq_of_pairwise (le:=fun x y=>x<=y) (fun x y _ _ h1 h2=>Int.le_antisymm h1 h2) ha hb h
theorem ZhL(l:Iv):Z1 l=Zbu l:=
 ZgD (((List.mergeSort_perm _ _)).trans (Zat l).symm) (Zsf l) (Zdg l)
theorem Zlj{a b:Iv}(h:a.Perm b):Zbu a=Zbu b:=ZgD (((Zat a).trans h).trans (Zat b).symm) (Zdg a) (Zdg b)
def ddI(l:Iv):Nat->List Int
 |0=>[]
 |k+1=>ddI l k++(match l[k]? with|none=>[]|some x=>if k=0 then [x] else if l[k-1]? =some x then [] else [x])
theorem Zgn(l:Iv)(k:Nat):ddI l (k+1)=ddI l k++(match l[k]? with|none=>[]|some x=>if k=0 then [x] else if l[k-1]? =some x then [] else [x]):=rfl
theorem Zg3(l:Iv):∀k,k<=l.length->Lib.compactUpTo l.toArray k=ddI l k
 |0,_=>rfl
 |k+1,h=>by
  rw[Lib.compactUpTo_succ,Zg3 l k (by omega)];rw[Zgn];have hk:l[k]? =some l[k]:=Qg (by omega);rw[hk];have e1:l.toArray[k]! =l[k]:=by simp[show k<l.length by omega]
  simp only[e1];unfold Lib.keeps
  by_cases h0:k=0
  ·subst h0;simp
  ·have hk1:l[k-1]? =some l[k-1]:=Qg (by omega);have e2:l.toArray[k-1]! =l[k-1]:=by simp[show k-1<l.length by omega]
   rw[if_neg h0,hk1];simp only[e1,e2,h0,Gy]
   by_cases h1:l[k-1]=l[k]
   ·simp[h1]
   ·have h2:¬l[k]=l[k-1]:=fun e=>h1 e.symm
    simp[h1,h2]
theorem Zjr(l:Iv):Lib.compact l=ddI l l.length:=Zg3 l l.length (Nat.le_refl _)
theorem ZjZ(l:Iv):∀k,(ddI l k).length<=k
 |0=>Nat.le_refl _
 |k+1=>by
  rw[Zgn];have:=ZjZ l k;rw[Gt]
  split
  ·simp;omega
  ·split
   ·simp;omega
   ·split<;>simp<;>omega
theorem ZjO(l:Iv)(a:Int):∀k,k<=l.length->(a∈ddI l k↔a∈l.take k)
 |0,_=>by simp[ddI]
 |k+1,h=>by
  have ih:=ZjO l a k (by omega);rw[Zgn];rw[Qg (show k<l.length by omega),Gb (show k<l.length by omega),Ib,Ib,ih]
  by_cases h0:k=0
  ·subst h0;simp
  ·simp only[if_neg h0]
   by_cases h1:l[k-1]? =some l[k]
   ·rw[if_pos h1]
    have hm:l[k]∈l.take k:=by
     rw[List.mem_take_iff_getElem];refine⟨k-1,by omega,?_⟩;rw[Qg (by omega)]at h1
     simpa using h1
    constructor
    ·rintro(h|h)
     ·exact .inl h
     ·simp at h
    ·rintro(h|h)
     ·exact .inl h
     ·simp only[Gq]at h;subst h;exact .inl hm
   ·rw[if_neg h1]
theorem Zrt(l:Iv)(hs:l.Pairwise (·<=·)):∀k,k<=l.length->(ddI l k).Pairwise (·<·)
 |0,_=>List.Pairwise.nil
 |k+1,h=>by
  have ih:=Zrt l hs k (by omega);rw[Zgn];rw[Qg (show k<l.length by omega)]
  by_cases h0:k=0
  ·subst h0;simp[ddI]
  ·simp only[if_neg h0]
   by_cases h1:l[k-1]? =some l[k]
   ·rw[if_pos h1,Ho];exact ih
   ·rw[if_neg h1,Gm];refine⟨ih,by simp,fun a ha b hb=>?_⟩;simp only[Gq]at hb;subst hb;rw[ZjO l a k (by omega),List.mem_take_iff_getElem]at ha;obtain⟨j,hj,rfl⟩:=ha;have hp:=List.pairwise_iff_getElem.1 hs
    have e1:l[j]<=l[k-1]:=by
     by_cases e:j=k-1
     ·subst e;exact Int.le_refl _
     ·exact hp j (k-1) (by omega) (by omega) (by omega)
    have e2:l[k-1]<=l[k]:=hp (k-1) k (by omega) (by omega) (by omega);have e3:l[k-1]≠l[k]:=fun e=>h1 (by rw[Qg (by omega),e])
    omega
def ZJ(l:Iv):Iv:=ddI (Zbu l) (Zbu l).length
theorem ZdX(l:Iv)(a:Int):a∈ZJ l↔a∈l:=by
 unfold ZJ;rw[ZjO _ _ _ (Nat.le_refl _),G7];exact(Zat l).mem_iff
theorem ZcN(l:Iv):(ZJ l).Pairwise (·<·):=Zrt _ (Zdg l) _ (Nat.le_refl _)
theorem ZeH(l:Iv):(ZJ l).length<=l.length:=by
 unfold ZJ;have:=ZjZ (Zbu l) (Zbu l).length;rw[(Zat l).length_eq]at this ⊢;exact this
theorem ZbP(l:Iv):Lib.compact (Z1 l)=ZJ l:=by rw[ZhL,Zjr];rfl
