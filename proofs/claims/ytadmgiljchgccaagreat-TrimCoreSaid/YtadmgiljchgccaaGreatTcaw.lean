/- pack.Sort. -/
import Derived.Test.YtadmgiljchgccaaGreatTcaq
import Derived.Test.YtadmgiljchgccaaGreatTcar
namespace Go.Proofs.YtadmgiljchgccaaGreat
open Go.RowKit
set_option linter.unusedVariables false
set_option linter.unusedSimpArgs false
set_option maxRecDepth 100000
theorem Zna{w:I0}{g:Nat}{cs:Ip}{l:List Edge}(hb:Blk w g 58 cs)(h:cs.take (l.length*4)=(l.map Edge.cells).flatten):ZpF w (some ⟨g,0,none⟩) l:=
 ⟨fun _=>True,fun _=>⟨_,rfl,trivial,hb.lt,fun i row hi j v hj=>by
  have hi':i<l.length:=by
   have:=(List.getElem?_eq_some_iff.1 hi).1
   simpa using this
  rw[List.getElem?_map,Qg hi']at hi
  cases hi
  have e1:(⟨g,0,none⟩:Addr).add (i*4+j)=⟨g,i*4+j,none⟩:=by unfold Addr.add;split<;>simp_all
  rw[e1,hb.cell];exact Zc5 h hi' hj⟩⟩
theorem Zpd(w:I0)(A:OA)(c:Nat)(fv:Iz):CE 189 #[.slice A 0 c,fv] w (.tuple #[]):=
 (AnyF.slices_SortFunc_none sortE_lay A c fv w).mono fun _ _ h=>⟨h.1,h.2.symm⟩
def ddE(l:List Edge):List Edge:=ddF (ZbK l) l.length
theorem Zw9(F:Iw)(w:I0)(A:OA)(c:Nat)(l:List Edge)(h:Walk F w A l)(hl:l.length<=1000000):
  Calls Tryz.prog 136 #[.slice A l.length c] w (ZwH w (ddE l) (ddE l).length):=by
 go_enter Tryz.func136,Tryz.ntmps136;go_wp2_with fail;refine(Zwl F w A c l h hl).mono ?_;rintro e w1 ⟨A1,c1,rfl,ae,hu⟩;rcases ae.2 with ⟨hv,hn⟩|⟨g,cap,cur,hv,nh,hg,bG,eK,cf,bj⟩
 ·have hl0:l=[]:=Gd hn;subst hl0;simp only[Hv,Value.slice.injEq]at hv;obtain⟨rfl,_,rfl⟩:=hv;go_wp2_with fail;refine(Zpd _ _ _ _).mono ?_;rintro e w2 ⟨rfl,rfl⟩;go_wp2_with fail;refine(Zlm _ _ _).mono ?_;rintro e w2 ⟨rfl,rfl⟩;go_wp2;go_ret;exact⟨_,_,rfl,ZpR,hu⟩
 ·cases hv
  have hb:Blk w1 g 58 cur.toList:=by unfold Blk;rw[Array.toArray_toList];exact hg
  have aT:cur.toList.length=c1*4:=by rw[Array.length_toList];exact cf
  have hs:(ZbK l).length=l.length:=Zp3 l;have Hs:=Qh hs;clear hs hg cf;have Ht:=Qh bj;clear bj ae;go_wp2_with fail;refine(Zxq _ g _ l _ hb Ht.out (by rw[aT];omega) hl).mono ?_;rintro e w2 ⟨rfl,aS,hu2⟩;have pr:((ZbK l).map Edge.cells).flatten.length=l.length*4:=by rw[Zdl Zbn,Hw,Hs.out]
  have vY:=Qh pr;clear pr;have gR:=Qh (show∀(n:Nat),n=l.length->(((ZbK l).map Edge.cells).flatten++cur.toList.drop (l.length*4)).take (n*4)=((ZbK l).map Edge.cells).flatten from fun n hn=>by subst hn;rw[Gc (by rw[vY.out];exact Nat.le_refl _),List.take_of_length_le (by rw[vY.out];exact Nat.le_refl _)]);have jN:=Ztr w2 g c1 (ZbK l) _ aS (gR.out _ Hs.out) (by rw[Hs.out,Gt,vY.out];omega) (by rw[Hs.out];omega) (by rw[Hs.out];omega);rw[Hs.out]at jN;have Hc:=Qh jN;clear jN;have He:=Qh (show ddF (ZbK l) (ZbK l).length=ddE l by unfold ddE;rw[Hs.out]);go_wp2_with fail;refine(Hc.out).mono ?_;rintro e w3 ⟨he,⟨cs',dp,pB⟩,hu3⟩;rw[He.out]at he pB;subst he;have Ff:=Qh pB;clear pB;go_wp2;go_ret;refine⟨_,_,rfl,Zna (l:=ddE l) dp Ff.out,(hu.then_ hu2 fun i e=>?_).then_ hu3 fun i e=>?_⟩
  ·cases e;exact .inr nh
  ·cases e;exact .inr nh
theorem ZgQ(a b c:Edge)(h:(!ltOf Zbj b a)=true)(k:(!ltOf Zbj c b)=true):(!ltOf Zbj c a)=true:=by
 simp only[Zbm,Bool.not_eq_true']at*;rw[<-Gz,ZbT]at*;omega
theorem ZgR(a b:Edge):((!ltOf Zbj b a)||(!ltOf Zbj a b))=true:=by
 simp only[Zbm,Ia,Bool.not_eq_true'];simp only[<-Gz,ZbT];omega
theorem ZoC{x l:List Edge}(h:x.Perm l):ZbK x=ZbK l:=by
 unfold ZbK;refine List.Perm.eq_of_pairwise (le:=fun a b=>(!ltOf Zbj b a)=true) (fun a b _ _ h1 h2=>?_) (List.pairwise_mergeSort ZgQ ZgR x) (List.pairwise_mergeSort ZgQ ZgR l) (((List.mergeSort_perm _ _).trans h).trans (List.mergeSort_perm _ _).symm);simp only[Zbm,Bool.not_eq_true']at h1 h2;exact ZjP h2 h1
theorem ZmT{x l:List Edge}(h:x.Perm l):ddE x=ddE l:=by
 unfold ddE;rw[ZoC h,h.length_eq]
