/- A history without a transaction, plain: it is right again. -/
import Derived.Test.YtadmgiljchgccaaGreatTcbg
import Derived.Test.YtadmgiljchgccaaGreatTcbn
namespace Go.Proofs.YtadmgiljchgccaaGreat
open Go.RowKit
set_option linter.unusedVariables false
set_option linter.unusedSimpArgs false
theorem Zil{txs:List HTx}{id i:Int}(h:i≠id):Ze (Zao txs id) i=Ze txs i:=by
 unfold Ze Zao;rw[List.find?_filter]
 congr 1
 funext t
 by_cases e:t.id=i
 ·have:t.id≠id:=by omega
  simp[e];omega
 ·simp[e]
theorem Zvf{txs:List HTx}{id:Int}{v:Ver}(h:Zam txs v=true)(hn:¬(v.tx=id∧0<v.nth)):Zam (Zao txs id) v=true:=by
 unfold Zam at h ⊢
 by_cases h0:v.tx=0∧v.nth=0
 ·rw[if_pos h0]at h ⊢;exact h
 ·rw[if_neg h0]at h ⊢
  have hne:v.tx≠id:=fun e=>by
   cases hf:Ze txs v.tx with
   |none=>rw[hf]at h;cases h
   |some t=>
    rw[hf]at h;simp only[Hj,Gw]at h;exact hn ⟨e,by omega⟩
  rw[Zil hne];exact h
theorem Zr6{txs:List HTx}{id:Int}(hu:ZbJ txs id=false){t:HTx}(ht:t∈txs)(hid:t.id≠id){v:Ver}(hv:v∈ZbS t.id t.ops):¬(v.tx=id∧0<v.nth):=fun⟨a,b⟩=>by
 have:ZbJ txs id=true:=by
  unfold ZbJ;rw[Ha];refine⟨t,ht,?_⟩;rw[Hj,Ha];exact⟨by simpa using hid,v,hv,by rw[Hj];exact⟨by simpa using a,by simpa using b⟩⟩
 rw[hu]at this;cases this
theorem mem_wrs{txs:List HTx}{key n:Int}:n∈Zj txs key↔∃t∈txs,t.done=true∧key∈ZbB t.ops∧t.id=n:=by
 unfold Zj;rw[Ih]
 constructor
 ·rintro⟨t,ht,e⟩;rw[Hy,Hj]at ht;exact⟨t,ht.1,ht.2.1,by simpa using ht.2.2,e⟩
 ·rintro⟨t,ht,hd,hk,e⟩;exact⟨t,by rw[Hy,Hj];exact⟨ht,hd,by simpa using hk⟩,e⟩
theorem Zm8(txs:List HTx)(id key:Int):Zj (Zao txs id) key=(Zj txs key).filter fun n=> !(n==id):=by
 unfold Zj Zao;rw[List.filter_map,List.filter_filter,List.filter_filter]
 congr 1
 apply List.filter_congr
 intro t _;simp only[Function.comp,Bool.and_comm,Bool.and_left_comm]
section
variable {h:Hist}
theorem Zqx(hr:Zb h=true)(hl:(ZE h.txs []).length=h.ords.length){k:Int}(hk:k∈ZE h.txs []):∃o∈h.ords,o.key=k:=by
 have hn:=Zfh h.txs [] List.nodup_nil;have hp:(h.ords.map (·.key)).Pairwise (·≠·):=(Zde hr).imp fun {a b} hab e=>by omega
 have hs:∀x∈h.ords.map (·.key),x∈ZE h.txs []:=fun x hx=>by
  obtain⟨o,ho,rfl⟩:=Ih.1 hx
  cases hh:o.txs with
  |nil=>exact absurd hh (ZlQ hr ho)
  |cons n l=>
   have:n∈Zj h.txs o.key:=(ZaY hr ho).mem_iff.1 (by rw[hh];exact Gv);obtain⟨t,ht,hd,bJ,_⟩:=mem_wrs.1 this;exact(Ze6 _ _ _).2 (Or.inr ⟨t,ht,hd,bJ⟩)
 apply Classical.byContradiction
 intro hno
 have xm:k∉h.ords.map (·.key):=fun hm=>by
  obtain⟨o,ho,e⟩:=Ih.1 hm;exact hno ⟨o,ho,e⟩
 have:=Zds (l:=k::h.ords.map (·.key)) (m:=ZE h.txs []) (Gr.2 ⟨fun a ha e=>xm (e▸ha),hp⟩) (fun x hx=>by
  rcases Ie.1 hx with rfl|hx
  ·exact hk
  ·exact hs x hx)
 rw[G1,Hw]at this;omega
theorem ZoJ(hr:Zb h=true):(ZE h.txs []).length=h.ords.length:=by
 unfold Zb at hr;simp only[Hj,beq_iff_eq]at hr;exact hr.1.2
theorem Zkf{l:Iv}(h:l.Pairwise (·<·)){j:Nat}{a b:Int}(h1:l[j]? =some a)(h2:l[j+1]? =some b):a<b:=by
 obtain⟨x1,rfl⟩:=List.getElem?_eq_some_iff.1 h1;obtain⟨x2,rfl⟩:=List.getElem?_eq_some_iff.1 h2;exact List.pairwise_iff_getElem.1 h j (j+1) x1 x2 (by omega)
theorem ZtO{txs:List HTx}(hp:(txs.map (·.id)).Pairwise (·<·))(he:∀t∈txs,ZaT t.id t.ops=0∧Za0 txs t.id t.ops=true):(List.range txs.length).all (Zdf txs)=true:=by
 rw[Hd];intro i hi;have hi:=Ic.1 hi;unfold Zdf;rw[Qg hi];obtain⟨e1,e2⟩:=he _ (Hg hi);simp only[e1,e2,Bool.and_true,beq_self_eq_true]
 cases i with
 |zero=>rfl
 |succ j=>
  simp only[Qg (show j<txs.length by omega),Gw];exact Zkf hp (j:=j) (by rw[List.getElem?_map,Qg (by omega)];rfl) (by rw[List.getElem?_map,Qg hi];rfl)
theorem ZrS{txs:List HTx}{ords:List HOrd}(hp:(ords.map (·.key)).Pairwise (·<·))(he:∀o∈ords,o.txs≠[]∧o.txs.Perm (Zj txs o.key)):(List.range ords.length).all (Zb4 txs ords)=true:=by
 rw[Hd];intro i hi;have hi:=Ic.1 hi;unfold Zb4;rw[Qg hi];obtain⟨e1,e2⟩:=he _ (Hg hi)
 have e3:ords[i].txs.isEmpty=false:=by
  cases hh:ords[i].txs with
  |nil=>exact absurd hh e1
  |cons=>rfl
 simp only[e3,Zlj e2,Bool.and_true,beq_self_eq_true,Bool.not_false]
 cases i with
 |zero=>rfl
 |succ j=>
  simp only[Qg (show j<ords.length by omega),Gw];exact Zkf hp (j:=j) (by rw[List.getElem?_map,Qg (by omega)];rfl) (by rw[List.getElem?_map,Qg hi];rfl)
theorem ZmS(hr:Zb h=true)(id:Int):((ZaR h.ords id).map (·.key)).Pairwise (·<·):=by
 refine List.Pairwise.sublist ?_ (Zde hr)
 have:(ZaR h.ords id).map (·.key)=((h.ords.filter fun o=> !(o.txs.filter fun n=> !(n==id)).isEmpty)).map (·.key):=by
  unfold ZaR;rw[List.filter_map,List.map_map];rfl
 rw[this];exact List.filter_sublist.map _
theorem Zmg(hr:Zb h=true)(id k:Int):k∈(ZaR h.ords id).map (·.key)↔k∈ZE (Zao h.txs id) []:=by
 rw[Ih,Ze6]
 constructor
 ·rintro⟨o,ho,rfl⟩;obtain⟨u,hu,rfl,hne⟩:=mem_delO.1 ho
  cases hh:(u.txs.filter fun n=> !(n==id))with
  |nil=>exact absurd hh hne
  |cons n l=>
   have hm:n∈(u.txs.filter fun n=> !(n==id)):=by rw[hh];exact Gv
   rw[Hy]at hm;obtain⟨t,ht,hd,hk,e⟩:=mem_wrs.1 ((ZaY hr hu).mem_iff.1 hm.1);exact Or.inr ⟨t,mem_delT.2 ⟨ht,fun e2=>by have:=hm.2;simp at this;omega⟩,hd,hk⟩
 ·rintro(hk|⟨t,ht,hd,hk⟩)
  ·cases hk
  ·obtain⟨ht,hne⟩:=mem_delT.1 ht;obtain⟨o,ho,rfl⟩:=Zqx hr (ZoJ hr) ((Ze6 k _ _).2 (Or.inr ⟨t,ht,hd,hk⟩));refine⟨ZeV id o,mem_delO.2 ⟨o,ho,rfl,fun e=>?_⟩,rfl⟩
   have:t.id∈(o.txs.filter fun n=> !(n==id)):=by
    rw[Hy];exact⟨(ZaY hr ho).mem_iff.2 (mem_wrs.2 ⟨t,ht,hd,hk,rfl⟩),by simpa using hne⟩
   rw[e]at this;cases this
theorem Zk4(hr:Zb h=true){id:Int}(hu:ZbJ h.txs id=false):Zb (ZaL h id)=true:=by
 refine Zkg ?_ ?_ ?_ ?_
 ·show(Zao h.txs id).length<=4096
  have:=Zkh hr;have h2:(Zao h.txs id).length<=h.txs.length:=Gj ..;omega
 ·refine ZtO ((Zbf hr).sublist (List.filter_sublist.map _)) fun t ht=>?_
  obtain⟨ht,hne⟩:=mem_delT.1 ht;obtain⟨e1,e2⟩:=Zc6 hr ht;refine⟨e1,?_⟩;unfold Za0 at e2 ⊢;rw[Hd]at e2 ⊢;exact fun v hv=>Zvf (e2 v hv) (Zr6 hu ht hne hv)
 ·show((ZE (Zao h.txs id) []).length==(ZaR h.ords id).length)=true
  have h1:=Zds (l:=ZE (Zao h.txs id) []) (m:=(ZaR h.ords id).map (·.key)) (Zfh _ _ List.nodup_nil) (fun x hx=>(Zmg hr id x).2 hx);have h2:=Zds (l:=(ZaR h.ords id).map (·.key)) (m:=ZE (Zao h.txs id) []) ((ZmS hr id).imp fun {a b} hab e=>by omega) (fun x hx=>(Zmg hr id x).1 hx);rw[Hw]at h1 h2;rw[beq_iff_eq];omega
 ·refine ZrS (ZmS hr id) fun o ho=>?_
  obtain⟨u,hu,rfl,hne⟩:=mem_delO.1 ho;refine⟨hne,?_⟩
  show(u.txs.filter fun n=> !(n==id)).Perm (Zj (Zao h.txs id) u.key)
  rw[Zm8];exact(ZaY hr hu).filter _
end
