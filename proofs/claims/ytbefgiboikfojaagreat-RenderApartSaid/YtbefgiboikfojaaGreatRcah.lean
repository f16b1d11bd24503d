/- Slices of ints: cloned, held against one another. -/
import Derived.Test.YtbefgiboikfojaaGreatLayEqualI
import Derived.Lib.SlicesCompact
import Derived.Test.YtbefgiboikfojaaGreatRcac
namespace Go.Proofs.YtbefgiboikfojaaGreat
open Go.RowKit
set_option linter.unusedVariables false
set_option linter.unusedSimpArgs false
set_option maxRecDepth 100000
theorem ZbW:SlT Tryz.prog 57 3 1 8:=SlT.mk_ Tryz.underlying57 (z:= Qi 0) (by kernel_rfl) rfl (by omega)
def Zfn(w:Gy)(l:Gv)(e:Ending)(w':Gy):Prop:=∃A c,e= .returned (.slice A l.length c)∧w'.ownsRow w.heap.size 3 1 (.slice A l.length c) l.length (l.map (Value.int .i64))∧Upd No w w'
theorem Zrm{W:Gy}{B n:Nat}{e:Gx}(hn:n=W.heap.size)(hB:B<=W.heap.size):(W.alloc (.cells #[] e)).ownsRow B e 1 (.slice (some ⟨n,0,none⟩) 0 0) 0 []:=by
 subst hn;exact Zz (World.ownsRow_made W #[] 0 (Nat.le_refl _) (by decide) (by simp)) hB
theorem Zp5(F:Gt)(w:Gy)(A:OA)(c:Nat)(l:Gv)(h:Ints F w A l)(hl:l.length<=17592186044415):
  Calls Tryz.prog 159 #[.slice A l.length c] w (Zfn w l):=by
 have qT:∀(w:Gy) (a:OA) (n c:Nat),(binOp .eql 57 (.slice a n c) (.slice none 0 0)).run Tryz.prog w= .ok (.bool a.isNone) w:=fun w a n c=>Lib.run_eql_slice_nil w _ _ a n c 0 0 Tryz.underlying57
 cases A with
 |none=>
  have h0:l=[]:=by
   cases l with
   |nil=>rfl
   |cons a l=>obtain⟨_,e,_⟩:=h (by simp);cases e
  subst h0;go_enter Tryz.func159,Tryz.ntmps159;go_wp2;go_ret;exact⟨none,0,rfl,Gf _ _ _ _,Gg _ _⟩
 |some ad=>
  have hs:Hid (Src (w.alloc (.cells #[] 3)) (some ad) l.length 1 (l.map (Value.int .i64))):=Qh (Ints.src (h.upd ((Gg No w).alloc (.cells #[] 3)) Qo));go_enter Tryz.func159,Tryz.ntmps159;go_wp2_with (at_builtin;refine Zgk rfl rfl ZbW (base:=w.heap.size) (v:= .slice (some ⟨w.heap.size,0,none⟩) 0 0) (n:=0) (m:=l.length) (xs:=[]) rfl rfl (Zrm rfl (Nat.le_refl _)) hs.out (Ints.one_ l) (by omega) (by omega) (by simp) ?_);intro v4 w4 ar hu4 cQ;obtain⟨A4,c4,rfl⟩:=ZaQ ar;have uw4:Upd No w w4:=((Gg No w).alloc _).then_ hu4 (fun j e=> .inr (ZiM e));go_wp2;go_ret;exact⟨A4,c4,rfl,ar,uw4⟩
def Zaj(l:Gv):Gv:=l.mergeSort fun x y=>decide (x<=y)
theorem Zb7(l:Gv):(Zaj l).length=l.length:=List.length_mergeSort ..
theorem Zmh{w:Gy}{a:Addr}{v:Gz}(h:w.cell? a=some v):a=⟨a.block,a.off,none⟩:=by
 obtain⟨b,o,s⟩:=a
 cases s with
 |none=>rfl
 |some s=>
  unfold World.cell? at h
  split at h
  ·simp at h
  ·cases h
theorem ZjK(b o j:Nat):(⟨b,o,none⟩:Addr).add j=⟨b,o+j,none⟩:=by unfold Addr.add;split<;>simp_all
theorem Ints.cells_{F:Gt}{w:Gy}{A:OA}{l:Gv}(h:Ints F w A l)(hne:l≠[]):∃b o,A=some ⟨b,o,none⟩∧∀j,j<l.length->w.cell? ⟨b,o+j,none⟩=some (Qi (l.getD j 0)):=by
 obtain⟨ad,e,_,_,hc⟩:=h hne;have h0:0<l.length:=List.length_pos_iff.2 hne;have c0:=hc 0 _ (Qg h0);have ha:ad.add 0=ad:=by unfold Addr.add;simp
 rw[ha]at c0;have hf:=Zmh c0;refine⟨ad.block,ad.off,by rw[e,<-hf],fun j hj=>?_⟩;have cj:=hc j _ (Qg hj);rw[hf]at cj;rw[ZjK]at cj;rw[cj,List.getD_eq_getElem?_getD,Qg hj];rfl
theorem Zuu(F G:Gt)(w:Gy)(A B:OA)(c d:Nat)(xs ys:Gv)(hx:Ints F w A xs)(hy:Ints G w B ys)(hl:xs.length<=17592186044415)(aN:ys.length<=17592186044415):
  CN 160 #[.slice A xs.length c,.slice B ys.length d] w (.bool (xs==ys)):=by
 by_cases h0:xs=[]
 ·subst h0;refine Calls.mono (AnyG.slices_Equal_int_empty equalI_lay A B c ys.length d w (by omega)) ?_;rintro e w' ⟨rfl,rfl⟩;refine⟨?_,Gg _ _⟩
  cases ys<;>rfl
 ·by_cases h1:ys=[]
  ·subst h1;have hne:0<xs.length:=List.length_pos_iff.2 h0;have hf:(xs==[])=false:=by rw[beq_eq_false_iff_ne];exact h0
   have hb:((xs.length:Int) != ((0:Nat):Int))=true:=by rw[bne_iff_ne];omega
   have Hf:=Qh hf;clear hf h0;go_enter Tryz.func160,Tryz.ntmps160;go_wp2;go_ret;exact⟨by rw[Hf.out];rfl,Gg _ _⟩
  ·obtain⟨b1,o1,rfl,cZ⟩:=hx.cells_ h0;obtain⟨b2,o2,rfl,fV⟩:=hy.cells_ h1;refine Calls.mono (AnyG.slices_Equal_int equalI_lay b1 o1 xs.length c b2 o2 ys.length d xs ys w (Nat.le_refl _) (Nat.le_refl _) (by omega) (by omega) cZ fV) ?_;rintro e w' ⟨rfl,q,rfl⟩;rw[Fj,Fj];exact⟨rfl,(Gg _ _).drewN q⟩
theorem Ints.of_owned{w:Gy}{base:Nat}{A:OA}{c:Nat}{l:Gv}(h:w.ownsRow base 3 1 (.slice A l.length c) l.length (l.map (Value.int .i64))):Ints (fun i=>base<=i) w A l:=Ints.of_own h
def ZiK(a b:Gv):Bool:=Zaj a==Zaj b
/- Lists of numbers:sorted by putting one after another,each once. -/
def Zic(x:Int):Gv->List Int
 |[]=>[x]
 |y::l=>if x<=y then x::y::l else y::Zic x l
def ZbM:Gv->List Int
 |[]=>[]
 |x::l=>Zic x (ZbM l)
theorem ZgV(x:Int):∀l:Gv,(Zic x l).Perm (x::l)
 |[]=>List.Perm.refl _
 |y::l=>by
  unfold Zic
  split
  ·exact List.Perm.refl _
  ·exact((ZgV x l).cons y).trans (List.Perm.swap x y l)
theorem Zaw:∀l:Gv,(ZbM l).Perm l
 |[]=>List.Perm.refl _
 |x::l=>(ZgV x _).trans ((Zaw l).cons x)
theorem Znr(x:Int):∀l:Gv,l.Pairwise (·<=·)->(Zic x l).Pairwise (·<=·)
 |[],_=>by simp[Zic]
 |y::l,h=>by
  rw[Fd]at h;unfold Zic
  split
  ·rename_i hxy
   rw[Fd];refine⟨fun a ha=>?_,Fd.2 h⟩;rcases F9.1 ha with rfl|ha
   ·exact hxy
   ·exact Int.le_trans hxy (h.1 a ha)
  ·rename_i hxy
   rw[Fd];refine⟨fun a ha=>?_,Znr x l h.2⟩;rcases F9.1 ((ZgV x l).mem_iff.1 ha)with rfl|ha
   ·omega
   ·exact h.1 a ha
theorem ZeC:∀l:Gv,(ZbM l).Pairwise (·<=·)
 |[]=>List.Pairwise.nil
 |x::l=>Znr x _ (ZeC l)
theorem ZqM(l:Gv):(Zaj l).Pairwise (·<=·):=by
 have:=List.pairwise_mergeSort (le:=fun x y:Int=>decide (x<=y)) (fun a b c h k=>by simp only[Ff]at*;omega) (fun a b=>by simp only[F3,Ff];omega) l;unfold Zaj;exact this.imp fun h=>by simpa using h
theorem ZgB{a b:Gv}(h:a.Perm b)(ha:a.Pairwise (·<=·))(hb:b.Pairwise (·<=·)):a=b:=
 List.Perm.eq_of_pairwise (le:=fun x y=>x<=y) (fun x y _ _ h1 h2=>Int.le_antisymm h1 h2) ha hb h
theorem ZhV(l:Gv):Zaj l=ZbM l:=
 ZgB (((List.mergeSort_perm _ _)).trans (Zaw l).symm) (ZqM l) (ZeC l)
def ddI(l:Gv):Nat->List Int
 |0=>[]
 |k+1=>ddI l k++(match l[k]? with|none=>[]|some x=>if k=0 then [x] else if l[k-1]? =some x then [] else [x])
theorem Zge(l:Gv)(k:Nat):ddI l (k+1)=ddI l k++(match l[k]? with|none=>[]|some x=>if k=0 then [x] else if l[k-1]? =some x then [] else [x]):=rfl
theorem Zg3(l:Gv):∀k,k<=l.length->Lib.compactUpTo l.toArray k=ddI l k
 |0,_=>rfl
 |k+1,h=>by
  rw[Lib.compactUpTo_succ,Zg3 l k (by omega)];rw[Zge];have hk:l[k]? =some l[k]:=Qg (by omega);rw[hk];have e1:l.toArray[k]! =l[k]:=by simp[show k<l.length by omega]
  simp only[e1];unfold Lib.keeps
  by_cases h0:k=0
  ·subst h0;simp
  ·have hk1:l[k-1]? =some l[k-1]:=Qg (by omega);have e2:l.toArray[k-1]! =l[k-1]:=by simp[show k-1<l.length by omega]
   rw[if_neg h0,hk1];simp only[e1,e2,h0,Fh]
   by_cases h1:l[k-1]=l[k]
   ·simp[h1]
   ·have h2:¬l[k]=l[k-1]:=fun e=>h1 e.symm
    simp[h1,h2]
theorem Zjn(l:Gv):Lib.compact l=ddI l l.length:=Zg3 l l.length (Nat.le_refl _)
theorem ZjO(l:Gv):∀k,(ddI l k).length<=k
 |0=>Nat.le_refl _
 |k+1=>by
  rw[Zge];have:=ZjO l k;rw[Fb]
  split
  ·simp;omega
  ·split
   ·simp;omega
   ·split<;>simp<;>omega
theorem ZjI(l:Gv)(a:Int):∀k,k<=l.length->(a∈ddI l k↔a∈l.take k)
 |0,_=>by simp[ddI]
 |k+1,h=>by
  have ih:=ZjI l a k (by omega);rw[Zge];rw[Qg (show k<l.length by omega),Es (show k<l.length by omega),Fu,Fu,ih]
  by_cases h0:k=0
  ·subst h0;simp
  ·simp only[if_neg h0]
   by_cases h1:l[k-1]? =some l[k]
   ·rw[if_pos h1]
    have hm:l[k]∈l.take k:=by
     rw[List.mem_take_iff_getElem];refine⟨k-1,by omega,?_⟩;rw[Qg (by omega)]at h1
     simpa using h1
    constructor
    ·rintro(h|h)
     ·exact .inl h
     ·simp at h
    ·rintro(h|h)
     ·exact .inl h
     ·simp only[Fa]at h;subst h;exact .inl hm
   ·rw[if_neg h1]
theorem Zqj(l:Gv)(hs:l.Pairwise (·<=·)):∀k,k<=l.length->(ddI l k).Pairwise (·<·)
 |0,_=>List.Pairwise.nil
 |k+1,h=>by
  have ih:=Zqj l hs k (by omega);rw[Zge];rw[Qg (show k<l.length by omega)]
  by_cases h0:k=0
  ·subst h0;simp[ddI]
  ·simp only[if_neg h0]
   by_cases h1:l[k-1]? =some l[k]
   ·rw[if_pos h1,Fv];exact ih
   ·rw[if_neg h1,E5];refine⟨ih,by simp,fun a ha b hb=>?_⟩;simp only[Fa]at hb;subst hb;rw[ZjI l a k (by omega),List.mem_take_iff_getElem]at ha;obtain⟨j,hj,rfl⟩:=ha;have hp:=List.pairwise_iff_getElem.1 hs
    have e1:l[j]<=l[k-1]:=by
     by_cases e:j=k-1
     ·subst e;exact Int.le_refl _
     ·exact hp j (k-1) (by omega) (by omega) (by omega)
    have e2:l[k-1]<=l[k]:=hp (k-1) k (by omega) (by omega) (by omega);have e3:l[k-1]≠l[k]:=fun e=>h1 (by rw[Qg (by omega),e])
    omega
def ZG(l:Gv):Gv:=ddI (ZbM l) (ZbM l).length
theorem Zcc(l:Gv)(a:Int):a∈ZG l↔a∈l:=by
 unfold ZG;rw[ZjI _ _ _ (Nat.le_refl _),Fj];exact(Zaw l).mem_iff
theorem ZbX(l:Gv):(ZG l).Pairwise (·<·):=Zqj _ (ZeC l) _ (Nat.le_refl _)
theorem ZfJ(l:Gv):(ZG l).length<=l.length:=by
 unfold ZG;have:=ZjO (ZbM l) (ZbM l).length;rw[(Zaw l).length_eq]at this ⊢;exact this
theorem Zdx(l:Gv):Lib.compact (Zaj l)=ZG l:=by rw[ZhV,Zjn];rfl
