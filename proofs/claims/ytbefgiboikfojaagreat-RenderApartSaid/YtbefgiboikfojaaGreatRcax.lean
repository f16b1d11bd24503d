/- pack.Sort. -/
import Derived.Shelf.SlSortCmp.NoneTotal
import Derived.Test.YtbefgiboikfojaaGreatRcau
import Derived.Test.YtbefgiboikfojaaGreatRcav
namespace Go.Proofs.YtbefgiboikfojaaGreat
open Go.RowKit
set_option linter.unusedVariables false
set_option linter.unusedSimpArgs false
set_option maxRecDepth 100000
theorem ZmK{w:Gy}{g:Nat}{cs:Gl}{l:List Edge}(hb:Blk w g 94 cs)(h:cs.take (l.length*4)=(l.map Edge.cells).flatten):WalkX w (some ⟨g,0,none⟩) l:=
 ⟨fun _=>True,fun _=>⟨_,rfl,trivial,hb.lt,fun i row hi j v hj=>by
  have hi':i<l.length:=by
   have:=(List.getElem?_eq_some_iff.1 hi).1
   simpa using this
  rw[List.getElem?_map,Qg hi']at hi
  cases hi
  have e1:(⟨g,0,none⟩:Addr).add (i*4+j)=⟨g,i*4+j,none⟩:=by unfold Addr.add;split<;>simp_all
  rw[e1,hb.cell];exact ZcX h hi' hj⟩⟩
theorem Zol(w:Gy)(A:OA)(c:Nat)(fv:Gz):CE 114 #[.slice A 0 c,fv] w (.tuple #[]):=
 (AnyF.slices_SortFunc_none sortE_lay A c fv w).mono fun _ _ h=>⟨h.1,h.2.symm⟩
def ddE(l:List Edge):List Edge:=ddF (ZbN l) l.length
theorem Zvn(F:Gt)(w:Gy)(A:OA)(c:Nat)(l:List Edge)(h:Walk F w A l)(hl:l.length<=1000000):
  Calls Tryz.prog 75 #[.slice A l.length c] w (ZuN w (ddE l) (ddE l).length):=by
 go_enter Tryz.func75,Tryz.ntmps75;go_wp2_with fail;refine(Zuy F w A c l h hl).mono ?_;rintro e w1 ⟨A1,c1,rfl,ae,hu⟩;rcases ae.2 with ⟨hv,hn⟩|⟨g,cap,cur,hv,nh,hg,eA,il,ct,bg⟩
 ·have iW:l=[]:=Et hn;subst iW;simp only[Fz,Value.slice.injEq]at hv;obtain⟨rfl,_,rfl⟩:=hv;go_wp2_with fail;refine(Zol _ _ _ _).mono ?_;rintro e w2 ⟨rfl,rfl⟩;go_wp2_with fail;refine(Zk4 _ _ _).mono ?_;rintro e w2 ⟨rfl,rfl⟩;go_wp2;go_ret;exact⟨_,_,rfl,ZoX,hu⟩
 ·cases hv
  have hb:Blk w1 g 94 cur.toList:=by unfold Blk;rw[Array.toArray_toList];exact hg
  have cO:cur.toList.length=c1*4:=by rw[Array.length_toList];exact ct
  have hs:(ZbN l).length=l.length:=Zo5 l;have Hs:=Qh hs;clear hs hg ct;have Ht:=Qh bg;clear bg ae;go_wp2_with fail;refine(ZvB _ g _ l _ hb Ht.out (by rw[cO];omega) hl).mono ?_;rintro e w2 ⟨rfl,hb2,hu2⟩;have oz:((ZbN l).map Edge.cells).flatten.length=l.length*4:=by rw[ZeL Zao,F6,Hs.out]
  have tP:=Qh oz;clear oz;have fV:=Qh (show∀(n:Nat),n=l.length->(((ZbN l).map Edge.cells).flatten++cur.toList.drop (l.length*4)).take (n*4)=((ZbN l).map Edge.cells).flatten from fun n hn=>by subst hn;rw[Eu (by rw[tP.out];exact Nat.le_refl _),List.take_of_length_le (by rw[tP.out];exact Nat.le_refl _)]);have jF:=ZrR w2 g c1 (ZbN l) _ hb2 (fV.out _ Hs.out) (by rw[Hs.out,Fb,tP.out];omega) (by rw[Hs.out];omega) (by rw[Hs.out];omega);rw[Hs.out]at jF;have Hc:=Qh jF;clear jF;have He:=Qh (show ddF (ZbN l) (ZbN l).length=ddE l by unfold ddE;rw[Hs.out]);go_wp2_with fail;refine(Hc.out).mono ?_;rintro e w3 ⟨he,⟨cs',hb3,um⟩,hu3⟩;rw[He.out]at he um;subst he;have Cc:=Qh um;clear um;go_wp2;go_ret;refine⟨_,_,rfl,ZmK (l:=ddE l) hb3 Cc.out,(hu.then_ hu2 fun i e=>?_).then_ hu3 fun i e=>?_⟩
  ·cases e;exact .inr nh
  ·cases e;exact .inr nh
theorem ZgQ(a b c:Edge)(h:(!ltOf Zbd b a)=true)(k:(!ltOf Zbd c b)=true):(!ltOf Zbd c a)=true:=by
 simp only[Zbf,Bool.not_eq_true']at*;rw[<-Fm,Zb3]at*;omega
theorem ZgR(a b:Edge):((!ltOf Zbd b a)||(!ltOf Zbd a b))=true:=by
 simp only[Zbf,F3,Bool.not_eq_true'];simp only[<-Fm,Zb3];omega
theorem ZnR{x l:List Edge}(h:x.Perm l):ZbN x=ZbN l:=by
 unfold ZbN;refine List.Perm.eq_of_pairwise (le:=fun a b=>(!ltOf Zbd b a)=true) (fun a b _ _ h1 h2=>?_) (List.pairwise_mergeSort ZgQ ZgR x) (List.pairwise_mergeSort ZgQ ZgR l) (((List.mergeSort_perm _ _).trans h).trans (List.mergeSort_perm _ _).symm);simp only[Zbf,Bool.not_eq_true']at h1 h2;exact ZjJ h2 h1
theorem Zmt{x l:List Edge}(h:x.Perm l):ddE x=ddE l:=by
 unfold ddE;rw[ZnR h,h.length_eq]
