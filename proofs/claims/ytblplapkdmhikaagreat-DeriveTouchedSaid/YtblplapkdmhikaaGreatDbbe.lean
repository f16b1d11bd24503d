/- pack.Sort. -/
import Derived.Test.YtblplapkdmhikaaGreatDbba
import Derived.Test.YtblplapkdmhikaaGreatDbbb
namespace Go.Proofs.YtblplapkdmhikaaGreat
set_option linter.unusedVariables false
set_option linter.unusedSimpArgs false
section
open Go.RowKit
theorem Zih {w:World} {g:Nat} {cs:List Value} {l:List Edge} (hb:Blk w g 53 cs) (h:cs.take (l.length*4)=(l.map Edge.cells).flatten):WalkX w (some ⟨g,0,none⟩) l:=
 ⟨fun _=>True,fun _=>⟨_,rfl,trivial,hb.lt,fun i row hi j v hj=>by
  have hi':i<l.length:=by
   have:=(List.getElem?_eq_some_iff.1 hi).1
   simpa using this
  rw[List.getElem?_map,Qg hi']at hi
  cases hi
  have e1:(⟨g,0,none⟩:Addr).add (i*4+j)=⟨g,i*4+j,none⟩:=by unfold Addr.add;split<;>simp_all
  rw[e1,hb.cell];exact Zbj h hi' hj⟩⟩
theorem ZjM (w:World) (A:Option Addr) (c:Nat) (fv:Value):Calls Tryz.prog 148 #[.slice A 0 c,fv] w fun e w'=>e= .returned (.tuple #[])∧w=w':=
 (AnyF.slices_SortFunc_none ZgB A c fv w).mono fun _ _ h=>⟨h.1,h.2.symm⟩
def ddE (l:List Edge):List Edge:=ddF (Zac l) l.length
set_option maxRecDepth 100000 in
theorem Zmu (F:Nat→Prop) (w:World) (A:Option Addr) (c:Nat) (l:List Edge) (h:Walk F w A l) (hl:l.length≤1000000):
  Calls Tryz.prog 60 #[.slice A l.length c] w (Zod w (ddE l) (ddE l).length):=by
 go_enter Tryz.func60,Tryz.ntmps60
 go_wp2_with fail
 refine(Zn2 F w A c l h hl).mono ?_;rintro e w1 ⟨A1,c1,rfl,hown,hu⟩;rcases hown.2 with ⟨hv,hn⟩|⟨g,cap,cur,hv,hbg,hg,hnc,hcm,hcs,htake⟩
 ·have hl0:l=[]:=List.eq_nil_of_length_eq_zero hn;subst hl0;simp only[List.length_nil,Value.slice.injEq]at hv;obtain⟨rfl,_,rfl⟩:=hv
  go_wp2_with fail
  refine(ZjM _ _ _ _).mono ?_;rintro e w2 ⟨rfl,rfl⟩
  go_wp2_with fail
  refine(Zhj _ _ _).mono ?_;rintro e w2 ⟨rfl,rfl⟩;go_wp2
  go_ret
  exact⟨_,_,rfl,Zj9,hu⟩
 ·cases hv
  have hb:Blk w1 g 53 cur.toList:=by unfold Blk;rw[Array.toArray_toList];exact hg
  have hcl:cur.toList.length=c1*4:=by rw[Array.length_toList];exact hcs
  have hs:(Zac l).length=l.length:=Zke l;have Hs:=Qh hs;clear hs hg hcs;have Ht:=Qh htake;clear htake hown
  go_wp2_with fail
  refine(ZoK _ g _ l _ hb Ht.out (by rw[hcl];omega) hl).mono ?_;rintro e w2 ⟨rfl,hb2,hu2⟩;have hfl:((Zac l).map Edge.cells).flatten.length=l.length*4:=by rw[ZbQ Zbb,List.length_map,Hs.out]
  have Hfl:=Qh hfl;clear hfl;have hc2:=Qh (show∀(n:Nat),n=l.length→(((Zac l).map Edge.cells).flatten++cur.toList.drop (l.length*4)).take (n*4)=((Zac l).map Edge.cells).flatten from fun n hn=>by subst hn;rw[List.take_append_of_le_length (by rw[Hfl.out];exact Nat.le_refl _),List.take_of_length_le (by rw[Hfl.out];exact Nat.le_refl _)]);have hcmp:=Zmd w2 g c1 (Zac l) _ hb2 (hc2.out _ Hs.out) (by rw[Hs.out,List.length_append,Hfl.out];omega) (by rw[Hs.out];omega) (by rw[Hs.out];omega);rw[Hs.out]at hcmp;have Hc:=Qh hcmp;clear hcmp;have He:=Qh (show ddF (Zac l) (Zac l).length=ddE l by unfold ddE;rw[Hs.out])
  go_wp2_with fail
  refine(Hc.out).mono ?_;rintro e w3 ⟨he,⟨cs',hb3,ht3⟩,hu3⟩;rw[He.out]at he ht3;subst he;have Ht3:=Qh ht3;clear ht3;go_wp2
  go_ret
  refine⟨_,_,rfl,Zih (l:=ddE l) hb3 Ht3.out,(hu.then_ hu2 fun i e=> ?_).then_ hu3 fun i e=> ?_⟩
  ·cases e;exact .inr hbg
  ·cases e;exact .inr hbg
theorem ZcN (a b c:Edge) (h:(!ltOf Zan b a)=true) (k:(!ltOf Zan c b)=true):(!ltOf Zan c a)=true:=by
 simp only[Zak,Bool.not_eq_true']at*;rw[←Bool.not_eq_true,ZaU]at*;omega
theorem ZcO (a b:Edge):((!ltOf Zan b a)||(!ltOf Zan a b))=true:=by
 simp only[Zak,Bool.or_eq_true,Bool.not_eq_true'];simp only[←Bool.not_eq_true,ZaU];omega
theorem Zjf {x l:List Edge} (h:x.Perm l):Zac x=Zac l:=by
 unfold Zac;refine List.Perm.eq_of_pairwise (le:=fun a b=>(!ltOf Zan b a)=true) (fun a b _ _ h1 h2=> ?_) (List.pairwise_mergeSort ZcN ZcO x) (List.pairwise_mergeSort ZcN ZcO l) (((List.mergeSort_perm _ _).trans h).trans (List.mergeSort_perm _ _).symm);simp only[Zak,Bool.not_eq_true']at h1 h2;exact Zc6 h2 h1
theorem ZdD {x l:List Edge} (h:x.Perm l):ddE x=ddE l:=by
 unfold ddE;rw[Zjf h,h.length_eq]
end
end Go.Proofs.YtblplapkdmhikaaGreat
