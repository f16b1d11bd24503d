/- Slices of ints: cloned, held against one another. -/
import Derived.Lib.SliceRun
import Derived.Lib.SlicesCompact
import Derived.Test.YtblplapkdmhikaaGreatDbad
import Derived.Test.YtblplapkdmhikaaGreatDbaf
namespace Go.Proofs.YtblplapkdmhikaaGreat
set_option linter.unusedVariables false
set_option linter.unusedSimpArgs false
section
open Go.RowKit
theorem Zcn:SlT Tryz.prog 64 3 1 8:=SlT.mk_ Tryz.underlying64 (z:= .int .i64 0) (by kernel_rfl) rfl (by omega)
def Zgx (w:World) (l:List Int) (e:Ending) (w':World):Prop:=∃A c,e= .returned (.slice A l.length c)∧w'.ownsRow w.heap.size 3 1 (.slice A l.length c) l.length (l.map (Value.int .i64))∧Upd No w w'
theorem ZlQ {W:World} {B n:Nat} {e:TypeId} (hn:n=W.heap.size) (hB:B≤W.heap.size):(W.alloc (.cells #[] e)).ownsRow B e 1 (.slice (some ⟨n,0,none⟩) 0 0) 0 []:=by
 subst hn;exact ZK (World.ownsRow_made W #[] 0 (Nat.le_refl _) (by decide) (by simp)) hB
theorem ZhZ (F:Nat→Prop) (w:World) (A:Option Addr) (c:Nat) (l:List Int) (h:Ints F w A l) (hl:l.length≤17592186044415):
  Calls Tryz.prog 157 #[.slice A l.length c] w (Zgx w l):=by
 have qT:∀(w:World) (a:Option Addr) (n c:Nat),(binOp .eql 64 (.slice a n c) (.slice none 0 0)).run Tryz.prog w= .ok (.bool a.isNone) w:=fun w a n c=>Lib.run_eql_slice_nil w _ _ a n c 0 0 Tryz.underlying64
 cases A with
 |none=>
  have h0:l=[]:=by
   cases l with
   |nil=>rfl
   |cons a l=>obtain⟨_,e,_⟩:=h (by simp);cases e
  subst h0
  go_enter Tryz.func157,Tryz.ntmps157
  go_wp2
  go_ret
  exact⟨none,0,rfl,World.ownsRow_nil _ _ _ _,Upd.refl _ _⟩
 |some ad=>
  have hs:=Qh (show Src (w.alloc (.cells #[] 3)) (some ad) l.length 1 (l.map (Value.int .i64)) from Ints.src (h.upd ((Upd.refl No w).alloc (.cells #[] 3)) (fun _ _=>id)))
  go_enter Tryz.func157,Tryz.ntmps157
  go_wp2_with (at_builtin;refine Zem rfl rfl Zcn (base:=w.heap.size) (v:= .slice (some ⟨w.heap.size,0,none⟩) 0 0) (n:=0) (m:=l.length) (xs:=[]) rfl rfl (ZlQ rfl (Nat.le_refl _)) hs.out (Ints.one_ l) (by omega) (by omega) (by simp) ?_)
  intro v4 w4 hown4 hu4 hg4;obtain⟨A4,c4,rfl⟩:=Zar hown4;have uw4:Upd No w w4:=((Upd.refl No w).alloc _).then_ hu4 (fun j e=> .inr (ZfA e));go_wp2
  go_ret
  exact⟨A4,c4,rfl,hown4,uw4⟩
def ZM (l:List Int):List Int:=l.mergeSort fun x y=>decide (x≤y)
theorem Zbz (l:List Int):(ZM l).length=l.length:=List.length_mergeSort ..
theorem Zh3 {w:World} {a:Addr} {v:Value} (h:w.cell? a=some v):a=⟨a.block,a.off,none⟩:=by
 obtain⟨b,o,s⟩:=a
 cases s with
 |none=>rfl
 |some s=>
  unfold World.cell? at h
  split at h
  ·simp at h
  ·cases h
theorem Zm5 (b o j:Nat):(⟨b,o,none⟩:Addr).add j=⟨b,o+j,none⟩:=by unfold Addr.add;split<;>simp_all
theorem Ints.cells_ {F:Nat→Prop} {w:World} {A:Option Addr} {l:List Int} (h:Ints F w A l) (hne:l≠[]):∃b o,A=some ⟨b,o,none⟩∧∀j,j<l.length→w.cell? ⟨b,o+j,none⟩=some (.int .i64 (l.getD j 0)):=by
 obtain⟨ad,e,_,_,hc⟩:=h hne;have h0:0<l.length:=List.length_pos_iff.2 hne;have c0:=hc 0 _ (Qg h0);have ha:ad.add 0=ad:=by unfold Addr.add;simp
 rw[ha]at c0;have hf:=Zh3 c0;refine⟨ad.block,ad.off,by rw[e,←hf],fun j hj=> ?_⟩;have cj:=hc j _ (Qg hj);rw[hf]at cj;rw[Zm5]at cj;rw[cj,List.getD_eq_getElem?_getD,Qg hj];rfl
set_option maxRecDepth 100000 in
theorem ZkQ (F G:Nat→Prop) (w:World) (A B:Option Addr) (c d:Nat) (xs ys:List Int) (hx:Ints F w A xs) (hy:Ints G w B ys) (hl:xs.length≤17592186044415) (hl2:ys.length≤17592186044415):
  Calls Tryz.prog 158 #[.slice A xs.length c,.slice B ys.length d] w fun e w'=>e= .returned (.bool (xs==ys))∧Upd No w w':=by
 by_cases h0:xs=[]
 ·subst h0;refine Calls.mono (AnyG.slices_Equal_int_empty ZfZ A B c ys.length d w (by omega)) ?_;rintro e w' ⟨rfl,rfl⟩;refine⟨?_,Upd.refl _ _⟩
  cases ys<;>rfl
 ·by_cases h1:ys=[]
  ·subst h1;have hne:0<xs.length:=List.length_pos_iff.2 h0;have hf:(xs==[])=false:=by rw[beq_eq_false_iff_ne];exact h0
   have hb:((xs.length:Int) != ((0:Nat):Int))=true:=by rw[bne_iff_ne];omega
   have Hf:=Qh hf;clear hf h0
   go_enter Tryz.func158,Tryz.ntmps158
   go_wp2
   go_ret
   exact⟨by rw[Hf.out];rfl,Upd.refl _ _⟩
  ·obtain⟨b1,o1,rfl,hc1⟩:=hx.cells_ h0;obtain⟨b2,o2,rfl,hc2⟩:=hy.cells_ h1;refine Calls.mono (AnyG.slices_Equal_int ZfZ b1 o1 xs.length c b2 o2 ys.length d xs ys w (Nat.le_refl _) (Nat.le_refl _) (by omega) (by omega) hc1 hc2) ?_;rintro e w' ⟨rfl,q,rfl⟩;rw[List.take_length,List.take_length];exact⟨rfl,(Upd.refl _ _).drewN q⟩
theorem Ints.of_owned {w:World} {base:Nat} {A:Option Addr} {c:Nat} {l:List Int} (h:w.ownsRow base 3 1 (.slice A l.length c) l.length (l.map (Value.int .i64))):Ints (fun i=>base≤i) w A l:=Ints.of_own h
def Zfz (a b:List Int):Bool:=ZM a==ZM b
end
/- Lists of numbers:sorted by putting one after another,each once. -/
section
def Ze4 (x:Int):List Int→List Int
 |[]=>[x]
 |y::l=>if x≤y then x::y::l else y::Ze4 x l
def ZaH:List Int→List Int
 |[]=>[]
 |x::l=>Ze4 x (ZaH l)
theorem Zd5 (x:Int):∀l:List Int,(Ze4 x l).Perm (x::l)
 |[]=>List.Perm.refl _
 |y::l=>by
  unfold Ze4
  split
  ·exact List.Perm.refl _
  ·exact((Zd5 x l).cons y).trans (List.Perm.swap x y l)
theorem ZX:∀l:List Int,(ZaH l).Perm l
 |[]=>List.Perm.refl _
 |x::l=>(Zd5 x _).trans ((ZX l).cons x)
theorem ZiT (x:Int):∀l:List Int,l.Pairwise (·≤·)→(Ze4 x l).Pairwise (·≤·)
 |[],_=>by simp[Ze4]
 |y::l,h=>by
  rw[List.pairwise_cons]at h;unfold Ze4
  split
  ·rename_i hxy
   rw[List.pairwise_cons];refine⟨fun a ha=> ?_,List.pairwise_cons.2 h⟩;rcases List.mem_cons.1 ha with rfl|ha
   ·exact hxy
   ·exact Int.le_trans hxy (h.1 a ha)
  ·rename_i hxy
   rw[List.pairwise_cons];refine⟨fun a ha=> ?_,ZiT x l h.2⟩;rcases List.mem_cons.1 ((Zd5 x l).mem_iff.1 ha)with rfl|ha
   ·omega
   ·exact h.1 a ha
theorem Zcr:∀l:List Int,(ZaH l).Pairwise (·≤·)
 |[]=>List.Pairwise.nil
 |x::l=>ZiT x _ (Zcr l)
theorem Zlu (l:List Int):(ZM l).Pairwise (·≤·):=by
 have:=List.pairwise_mergeSort (le:=fun x y:Int=>decide (x≤y)) (fun a b c h k=>by simp only[decide_eq_true_eq]at*;omega) (fun a b=>by simp only[Bool.or_eq_true,decide_eq_true_eq];omega) l;unfold ZM;exact this.imp fun h=>by simpa using h
theorem ZdM {a b:List Int} (h:a.Perm b) (ha:a.Pairwise (·≤·)) (hb:b.Pairwise (·≤·)):a=b:=
 List.Perm.eq_of_pairwise (le:=fun x y=>x≤y) (fun x y _ _ h1 h2=>Int.le_antisymm h1 h2) ha hb h
theorem ZeT (l:List Int):ZM l=ZaH l:=
 ZdM (((List.mergeSort_perm _ _)).trans (ZX l).symm) (Zlu l) (Zcr l)
def ddI (l:List Int):Nat→List Int
 |0=>[]
 |k+1=>ddI l k++(match l[k]? with|none=>[]|some x=>if k=0 then [x] else if l[k-1]? =some x then [] else [x])
theorem ZdC (l:List Int) (k:Nat):ddI l (k+1)=ddI l k++(match l[k]? with|none=>[]|some x=>if k=0 then [x] else if l[k-1]? =some x then [] else [x]):=rfl
theorem Zef (l:List Int):∀k,k≤l.length→Lib.compactUpTo l.toArray k=ddI l k
 |0,_=>rfl
 |k+1,h=>by
  rw[Lib.compactUpTo_succ,Zef l k (by omega)];rw[ZdC];have hk:l[k]? =some l[k]:=Qg (by omega);rw[hk];have e1:l.toArray[k]! =l[k]:=by simp[show k<l.length by omega]
  simp only[e1];unfold Lib.keeps
  by_cases h0:k=0
  ·subst h0;simp
  ·have hk1:l[k-1]? =some l[k-1]:=Qg (by omega);have e2:l.toArray[k-1]! =l[k-1]:=by simp[show k-1<l.length by omega]
   rw[if_neg h0,hk1];simp only[e1,e2,h0,Option.some.injEq]
   by_cases h1:l[k-1]=l[k]
   ·simp[h1]
   ·have h2:¬l[k]=l[k-1]:=fun e=>h1 e.symm
    simp[h1,h2]
theorem Zf3 (l:List Int):Lib.compact l=ddI l l.length:=Zef l l.length (Nat.le_refl _)
theorem Zgp (l:List Int):∀k,(ddI l k).length≤k
 |0=>Nat.le_refl _
 |k+1=>by
  rw[ZdC];have:=Zgp l k;rw[List.length_append]
  split
  ·simp;omega
  ·split
   ·simp;omega
   ·split<;>simp<;>omega
theorem Zgl (l:List Int) (a:Int):∀k,k≤l.length→(a∈ddI l k↔a∈l.take k)
 |0,_=>by simp[ddI]
 |k+1,h=>by
  have ih:=Zgl l a k (by omega);rw[ZdC];rw[Qg (show k<l.length by omega),List.take_succ_eq_append_getElem (show k<l.length by omega),List.mem_append,List.mem_append,ih]
  by_cases h0:k=0
  ·subst h0;simp
  ·simp only[if_neg h0]
   by_cases h1:l[k-1]? =some l[k]
   ·rw[if_pos h1]
    have hm:l[k]∈l.take k:=by
     rw[List.mem_take_iff_getElem];refine⟨k-1,by omega,?_⟩;rw[Qg (by omega)]at h1
     simpa using h1
    constructor
    ·rintro(h|h)
     ·exact .inl h
     ·simp at h
    ·rintro(h|h)
     ·exact .inl h
     ·simp only[List.mem_singleton]at h;subst h;exact .inl hm
   ·rw[if_neg h1]
theorem Zk9 (l:List Int) (hs:l.Pairwise (·≤·)):∀k,k≤l.length→(ddI l k).Pairwise (·<·)
 |0,_=>List.Pairwise.nil
 |k+1,h=>by
  have ih:=Zk9 l hs k (by omega);rw[ZdC];rw[Qg (show k<l.length by omega)]
  by_cases h0:k=0
  ·subst h0;simp[ddI]
  ·simp only[if_neg h0]
   by_cases h1:l[k-1]? =some l[k]
   ·rw[if_pos h1,List.append_nil];exact ih
   ·rw[if_neg h1,List.pairwise_append];refine⟨ih,by simp,fun a ha b hb=> ?_⟩;simp only[List.mem_singleton]at hb;subst hb;rw[Zgl l a k (by omega),List.mem_take_iff_getElem]at ha;obtain⟨j,hj,rfl⟩:=ha;have hp:=List.pairwise_iff_getElem.1 hs
    have e1:l[j]≤l[k-1]:=by
     by_cases e:j=k-1
     ·subst e;exact Int.le_refl _
     ·exact hp j (k-1) (by omega) (by omega) (by omega)
    have e2:l[k-1]≤l[k]:=hp (k-1) k (by omega) (by omega) (by omega);have e3:l[k-1]≠l[k]:=fun e=>h1 (by rw[Qg (by omega),e])
    omega
def Za3 (l:List Int):List Int:=ddI (ZaH l) (ZaH l).length
theorem Zbu (l:List Int) (a:Int):a∈Za3 l↔a∈l:=by
 unfold Za3;rw[Zgl _ _ _ (Nat.le_refl _),List.take_length];exact(ZX l).mem_iff
theorem Zeq (l:List Int):(Za3 l).Pairwise (·<·):=Zk9 _ (Zcr l) _ (Nat.le_refl _)
theorem ZeV (l:List Int):(Za3 l).length≤l.length:=by
 unfold Za3;have:=Zgp (ZaH l) (ZaH l).length;rw[(ZX l).length_eq]at this ⊢;exact this
theorem Zct (l:List Int):Lib.compact (ZM l)=Za3 l:=by rw[ZeT,Zf3];rfl
end
end Go.Proofs.YtblplapkdmhikaaGreat
