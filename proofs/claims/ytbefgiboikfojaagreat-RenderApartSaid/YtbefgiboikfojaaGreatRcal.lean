/- From the form's reading of an argument to lists of cells, with the reach: structs, slices, and what lies in them. -/
import Derived.Deep.Slices
import Derived.Test.YtbefgiboikfojaaGreatRcac
namespace Go.Proofs.YtbefgiboikfojaaGreat
set_option linter.unusedVariables false
set_option linter.unusedSimpArgs false
section
open Go.RowKit Go.ChangeShapes Go.WideShapes Go.Deep
section
variable {H:Type} (enc:Gx×Gz->H) (P:Gw) (w:Gy) (base:Nat) (spare:Nat->Bool) (held:Bool)
def Rdz(t:Gx)(cs:Gl):Prop:=∃n y,DataW.trod enc P w base spare held n t cs=some y∧∀z∈y.1.weights P t,z<=reachBytes
end
section
variable {H:Type} {enc:Gx×Gz->H} {P:Gw} {w:Gy} {base:Nat} {spare:Nat->Bool} {held:Bool} {t e:Gx} {cs:Gl}
theorem Zfp{d:DataW H}:∀{l:List (DataW H)},d∈l->∀n∈d.weights P e,n∈DataW.weightsAll P e l
 |x::l,h,n,hn=>by
  simp only[DataW.weightsAll,Fu];rcases F9.1 h with rfl|h
  ·exact .inl hn
  ·exact .inr (Zfp h n hn)
 |[],h,_,_=>by simp at h
theorem Rdz.int_{k:IntKind}(ht:P.underlying t=some (.int k))(h:Rdz enc P w base spare held t cs):∃n,cs=[.int k n]∧(Lit.int k n).wf=true:=by
 obtain⟨n,y,h,_⟩:=h;obtain⟨a,rfl,_,hw⟩:=DataW.trod_int ht h;exact⟨a,rfl,hw⟩
theorem Rdz.bool_(ht:P.underlying t=some .bool)(h:Rdz enc P w base spare held t cs):∃b,cs=[.bool b]:=by
 obtain⟨n,y,h,_⟩:=h;obtain⟨a,rfl,_⟩:=DataW.trod_bool ht h;exact⟨a,rfl⟩
theorem Rdz.struct_{fs:Array Field}(ht:P.underlying t=some (.struct fs))(h:Rdz enc P w base spare held t cs):
  cs.length=P.cellsOf t∧∀(i:Nat) (f:Field),fs[i]? =some f->Rdz enc P w base spare held f.type ((cs.drop f.offset).take (P.cellsOf f.type)):=by
 obtain⟨n,y,h,hz⟩:=h;obtain⟨xs,m,_,rfl,hl,hxl,hf⟩:=DataW.trod_struct ht h;refine⟨hl,fun i f hi=>?_⟩;have dp:i<xs.length:=by rw[hxl];exact(Array.getElem?_eq_some_iff.1 hi).1
 refine⟨m,xs[i],(hf i f hi).trans (Qg dp),fun z hzz=>hz z ?_⟩;simp only[DataW.weights,ht];refine DataW.weights_mem_each (j:=i) (t:=f.type) (d:=xs[i].1) ?_ ?_ z hzz
 ·rw[List.getElem?_map,Array.getElem?_toList,hi];rfl
 ·rw[List.getElem?_map,Qg dp];rfl
theorem Rdz.slice_{C:Nat}(ht:P.underlying t=some (.slice e))(hC:P.cellsOf e=C)(Do:0<C)(h:Rdz enc P w base spare held t cs):
  cs=[.slice none 0 0]∨∃(a:Addr) (len cap:Nat) (rows:List (Gl)),cs=[.slice (some a) len cap]∧len<=cap∧cap<=maxLen∧rows.length=len∧len*P.bytesOf e<=reachBytes∧
   Recs (fun _=>True) w (some a) C rows∧∀row∈rows,row.length=C∧Rdz enc P w base spare held e row:=by
 obtain⟨n,y,h,hz⟩:=h;rcases open_slice ht h with ⟨ct,_⟩|⟨a,len,cap,m,n',D,Pl,ct,hb,hl,hm,e8,hx,hi⟩
 ·exact .inl ct
 ·right
  rw[hC]at hi;subst hx;simp only[DataW.weights,ht]at hz;have hlm:len<=m:=by rw[e8];split<;>omega
  have mS:len*P.bytesOf e<=reachBytes:=by
   have:=hz _ (Fc ..);simp only[F6,List.length_range]at this;exact Nat.le_trans (Nat.mul_le_mul_right _ (by omega)) this
  have zv:∀i:Fin len,∃row:Gl,w.cells? base (a.add (i.1*C)) C=some row∧Rdz enc P w base spare held e row:=fun i=>by
   obtain⟨cs',h1,h2⟩:=hi i.1 (by have:=i.2;omega);refine⟨cs',h1,n',_,h2,fun z hzz=>hz z (E7 _ (E9 _ (Zfp (d:=D i.1) ?_ z hzz)))⟩;exact Gc.2 ⟨i.1,F8.2 i.2,rfl⟩
  have hf:=fun i=>Classical.choose_spec (zv i)
  generalize hg:(fun i=>Classical.choose (zv i))=f at*;have hf:∀i:Fin len,w.cells? base (a.add (i.1*C)) C=some (f i)∧Rdz enc P w base spare held e (f i):=fun i=>by rw[<-hg];exact hf i
  refine⟨a,len,cap,List.ofFn f,ct,hl,hm,by simp,mS,fun hne=>?_,fun row hrow=>?_⟩
  ·have hlen:0<len:=by
    rcases Nat.eq_zero_or_pos len with h0|h0
    ·subst h0;simp at hne
    ·exact h0
   obtain⟨_,iW,kA⟩:=World.cells?_some (hf ⟨0,hlen⟩).1;have hv:(f ⟨0,hlen⟩)[0]? =some ((f ⟨0,hlen⟩)[0]'(by omega)):=Qg (by omega);have cf:=block_lt_of_cell ((kA 0 Do).trans hv);simp only[Ints.block_add]at cf;refine⟨a,rfl,trivial,cf,fun i row hi' j v hj=>?_⟩;obtain⟨dp,CU⟩:=List.getElem?_eq_some_iff.1 hi';have pL:i<len:=by simpa using dp
   have pK:f ⟨i,pL⟩=row:=by rw[<-CU];simp
   obtain⟨_,co,cZ⟩:=World.cells?_some (hf ⟨i,pL⟩).1;have rh:=(List.getElem?_eq_some_iff.1 hj).1;rw[<-Ints.add_add,cZ j (by rw[<-co,pK];exact rh),pK];exact hj
  ·obtain⟨i,rfl⟩:=(List.mem_ofFn).1 hrow;exact⟨(World.cells?_some (hf i).1).2.1,(hf i).2⟩
theorem ZfL{α:Type}{f:α->Gl}{Q:α->Prop}{rows:List (Gl)}(h:∀row∈rows,∃d,row=f d∧Q d):∃ds:List α,rows=ds.map f∧∀d∈ds,Q d:=by
 induction rows with
 |nil=>exact⟨[],rfl,fun d hd=>by simp at hd⟩
 |cons r rs ih=>
  obtain⟨d,rfl,hd⟩:=h _ (Fc ..);obtain⟨ds,rfl,B8⟩:=ih fun row hr=>h row (E7 _ hr)
  exact⟨d::ds,rfl,fun x hx=>by
   rcases F9.1 hx with rfl|hx
   ·exact hd
   ·exact B8 x hx⟩
end
end
