/- Witnesses, plain: there is one just if the history has the phenomenon; it is right, and none that is right is ahead of it. -/
import Derived.Test.YtonblekdfinpkaaGreatSxat
import Derived.Test.YtonblekdfinpkaaGreatSxaw
import Derived.Test.YtonblekdfinpkaaGreatSxbf
import Derived.Test.YtonblekdfinpkaaGreatSxbh
import Derived.Test.YtonblekdfinpkaaGreatSxbi
import Derived.Test.YtonblekdfinpkaaGreatSxbv
import Derived.Test.YtonblekdfinpkaaGreatSxbx
import Derived.Test.YtonblekdfinpkaaGreatSxby
namespace Go.Proofs.YtonblekdfinpkaaGreat
set_option linter.unusedVariables false
set_option linter.unusedSimpArgs false
section
section
variable {h:Hist}
theorem Zg0 {e:Edge}:e∈Zl (Zh h)↔(Za h&&Zdb h e)=true:=by
 unfold Zl;rw[List.mem_map,Bool.and_eq_true]
 constructor
 ·rintro⟨x,hx,rfl⟩;have hr:=Zfl hx;refine⟨hr,?_⟩;rw[←Zj5 hr];exact decide_eq_true (Nat.pos_of_ne_zero ((Zay hr).1 hx).1)
 ·rintro⟨hr,he⟩;rw[←Zj5 hr,decide_eq_true_eq]at he;exact⟨⟨e,(Z0 h e:Int)⟩,(Zay hr).2 ⟨by simp only;omega,rfl⟩,rfl⟩
end
end
/- Orders as if one by one,plain:an order agrees with a history just if there are no bad reads and it goes along all edges. -/
section
def wrT (txs:List HTx) (id key:Int):Bool:=match Zd txs id with|some t=>decide (0<Zg t.ops key)|none=>false
def Zan (txs:List HTx) (l:List Int) (key:Int):Int:=l.foldl (fun a id=>if wrT txs id key then id else a) 0
theorem Zg3 (txs:List HTx) (l:List Int) (y key:Int):Zan txs (l++[y]) key=if wrT txs y key then y else Zan txs l key:=by
 unfold Zan;rw[List.foldl_append];rfl
def Zeh (txs:List HTx) (O:List Int) (i:Nat) (key u:Int):Prop:=
 (u=0∧∀x∈O,O.idxOf x<i→wrT txs x key=false)∨(u∈O∧O.idxOf u<i∧wrT txs u key=true∧∀x∈O,O.idxOf x<i→wrT txs x key=true→O.idxOf x≤O.idxOf u)
theorem Zee {O:List Int} (hn:O.Nodup) {i:Nat} (hi:i<O.length):O.idxOf O[i]=i:=by
 have h1:O.idxOf O[i]<O.length:=List.idxOf_lt_length_of_mem (List.getElem_mem hi);have h2:O[O.idxOf O[i]]=O[i]:=List.getElem_idxOf h1;exact(List.getElem_inj hn).1 h2
theorem ZhH {O:List Int} {x y:Int} (hx:x∈O) (hy:y∈O) (e:O.idxOf x=O.idxOf y):x=y:=by
 have h1:O.idxOf x<O.length:=List.idxOf_lt_length_of_mem hx;have h2:O[O.idxOf x]=x:=List.getElem_idxOf h1;have h3:O.idxOf y<O.length:=List.idxOf_lt_length_of_mem hy;have h4:O[O.idxOf y]=y:=List.getElem_idxOf h3;rw[←h2,←h4]
 congr 1
theorem ZcT (txs:List HTx) {O:List Int} (hn:O.Nodup) (key:Int):∀i:Nat,i≤O.length→Zeh txs O i key (Zan txs (O.take i) key)
 |0,_=>Or.inl ⟨rfl,fun x _ h=>by omega⟩
 |i+1,hi=>by
  have ih:=ZcT txs hn key i (by omega);have hy:=Zee hn (show i<O.length by omega);obtain⟨y,hye⟩:∃y,O[i]=y:=⟨_,rfl⟩;have hm:y∈O:=by rw[←hye];exact List.getElem_mem _
  rw[hye]at hy
  have hcase:∀x∈O,O.idxOf x<i+1→O.idxOf x<i∨x=y:=fun x hx h=>by
   rcases Nat.lt_or_ge (O.idxOf x) i with h1|h1
   ·exact Or.inl h1
   ·exact Or.inr (ZhH hx hm (by omega))
  rw[List.take_succ_eq_append_getElem (by omega),hye,Zg3]
  by_cases hw:wrT txs y key=true
  ·rw[if_pos hw];exact Or.inr ⟨hm,by omega,hw,fun x hx h _=>by omega⟩
  ·rw[if_neg hw];rcases ih with ⟨h0,h1⟩|⟨h1,h2,h3,h4⟩
   ·exact Or.inl ⟨h0,fun x hx h=>(hcase x hx h).elim (h1 x hx) fun e=>by rw[e];simpa using hw⟩
   ·exact Or.inr ⟨h1,by omega,h3,fun x hx h hwx=>(hcase x hx h).elim (fun h=>h4 x hx h hwx) fun e=>by rw[e]at hwx;exact absurd hwx hw⟩
theorem Zg8 {txs:List HTx} {O:List Int} {i:Nat} {key u v:Int} (h:Zeh txs O i key u) (k:Zeh txs O i key v):u=v:=by
 rcases h with ⟨h1,h2⟩|⟨h1,h2,h3,h4⟩
 ·rcases k with ⟨k1,_⟩|⟨k1,k2,k3,_⟩
  ·rw[h1,k1]
  ·rw[h2 v k1 k2]at k3;cases k3
 ·rcases k with ⟨k1,k2⟩|⟨k1,k2,k3,k4⟩
  ·rw[k2 u h1 h2]at h3;cases h3
  ·exact ZhH h1 k1 (Nat.le_antisymm (k4 u h1 h2 h3) (h4 v k1 k2 k3))
section
variable {h:Hist} {O:List Int}
structure AgreeP (h:Hist) (O:List Int):Prop where
 right:Za h=true
 nd:O.Nodup
 mem:∀x,x∈O↔∃t,Zi h.txs x=some t
 ords:∀o∈h.ords,O.filter (fun x=>decide (x∈o.txs))=o.txs
 reads:∀t∈h.txs,t.done=true→∀o∈t.ops,o.read=true→o.tx≠t.id→Zeh h.txs O (O.idxOf t.id) o.key o.tx∧(o.tx=0∨∃u,Zd h.txs o.tx=some u∧o.nth=(Zg u.ops o.key:Int))
def Zhs (h:Hist) (O:List Int):Prop:=∀e∈Zl (Zh h),O.idxOf e.f<O.idxOf e.t
theorem Zcv {x key:Int} {t:HTx} (ht:Zi h.txs x=some t):wrT h.txs x key=decide (0<Zg t.ops key):=by
 unfold wrT;rw[(ZO ht).1]
theorem Zdf (hr:Za h=true) {o:HOrd} (ho:o∈h.ords) (x:Int):x∈o.txs↔∃t,Zi h.txs x=some t∧0<Zg t.ops o.key:=by
 rw[(ZbO hr ho).mem_iff];unfold Zq;rw[List.mem_map]
 constructor
 ·rintro⟨t,ht,rfl⟩;rw[List.mem_filter,Bool.and_eq_true]at ht;refine⟨t,Zbn hr ht.1 ht.2.1,?_⟩;rw[←Zcf]
  simpa using ht.2.2
 ·rintro⟨t,ht,hw⟩;obtain⟨h1,h2⟩:=ZaS ht;rw[List.mem_filter]at h1;refine⟨t,?_,h2⟩;rw[List.mem_filter,Bool.and_eq_true];refine⟨h1.1,h1.2,?_⟩;have:=(Zcf t.ops o.key).2 hw
  simpa using this
theorem Zgn (hr:Za h=true) {x key:Int} {t:HTx} (ht:Zi h.txs x=some t) (hw:0<Zg t.ops key):∃o∈h.ords,o.key=key∧x∈o.txs:=by
 have hlen:(ZF h.txs []).length=h.ords.length:=by
  unfold Za at hr;simp only[Bool.and_eq_true,beq_iff_eq]at hr;exact hr.1.2
 have hkn:(h.ords.map (·.key)).Nodup:=Zal (ZcV hr)
 have hsub:∀k∈h.ords.map (·.key),k∈ZF h.txs []:=fun k hk=>by
  obtain⟨o,ho,rfl⟩:=List.mem_map.1 hk;obtain⟨y,hy⟩:=List.exists_mem_of_ne_nil _ (Zjl hr ho);obtain⟨u,hu,huw⟩:=(Zdf hr ho y).1 hy;obtain⟨h1,_⟩:=ZaS hu;rw[List.mem_filter]at h1;exact(Ze3 _ _ _).2 (Or.inr ⟨u,h1.1,h1.2,(Zcf _ _).2 huw⟩)
 have hkey:key∈ZF h.txs []:=by
  obtain⟨h1,_⟩:=ZaS ht;rw[List.mem_filter]at h1;exact(Ze3 _ _ _).2 (Or.inr ⟨t,h1.1,h1.2,(Zcf _ _).2 hw⟩)
 have hin:key∈h.ords.map (·.key):=by
  apply Classical.byContradiction
  intro hn
  have:=Zbo (key::h.ords.map (·.key)) (ZF h.txs []) (List.nodup_cons.2 ⟨hn,hkn⟩) fun k hk=>by
   rcases List.mem_cons.1 hk with rfl|hk
   ·exact hkey
   ·exact hsub k hk
  rw[List.length_cons,List.length_map]at this;omega
 obtain⟨o,ho,rfl⟩:=List.mem_map.1 hin;exact⟨o,ho,rfl,(Zdf hr ho x).2 ⟨t,ht,hw⟩⟩
/-! edges in plain words -/
theorem Zqx (hr:Za h=true) {a b key:Int} (hx:Nx h.ords key a b) (ha:a≠0):(⟨a,b,1,key⟩:Edge)∈Zl (Zh h):=by
 rw[Zg0,hr,Bool.true_and];obtain⟨⟨t,ht⟩,_,hne,h0⟩:=hx.ids hr;obtain⟨u,hu⟩:=h0.resolve_left ha;unfold Zdb;simp only[hu,ht];rw[if_neg hne,if_pos trivial];exact(ZaP hr _ _ _).2 hx
theorem Zh6 {id key:Int} {l:List HOp} {f:Ver→Bool} {o:HOp} (ho:o∈l) (hrd:o.read=true) (hk:o.key=key) (hne:o.tx≠id) (hf:f ⟨o.tx,o.key,o.nth⟩=true):ZcP id l key f=true:=by
 unfold ZcP;rw[List.any_eq_true];refine⟨o,ho,?_⟩;have hv:Zo o=⟨o.tx,o.key,o.nth⟩:=by unfold Zo;rw[if_pos hrd]
 rw[hv,hf,hrd];simp[hk,hne]
theorem Zqy (hr:Za h=true) {t u:HTx} (ht:Zi h.txs t.id=some t) (hu:Zi h.txs u.id=some u) {o:HOp} (ho:o∈t.ops) (hrd:o.read=true) (htx:o.tx=u.id) (hne:u.id≠t.id) (hl:ZbS h.txs ⟨o.tx,o.key,o.nth⟩=true):
  (⟨u.id,t.id,2,o.key⟩:Edge)∈Zl (Zh h):=by
 rw[Zg0,hr,Bool.true_and];unfold Zdb;simp only[hu,ht];rw[if_neg hne,if_neg (by decide),if_pos trivial];exact Zh6 ho hrd rfl (by rw[htx];exact hne) (by rw[hl];simp[htx])
theorem Zqz (hr:Za h=true) {t:HTx} (ht:Zi h.txs t.id=some t) {o:HOp} (ho:o∈t.ops) (hrd:o.read=true) (hne:o.tx≠t.id) (hl:ZbS h.txs ⟨o.tx,o.key,o.nth⟩=true) {v:Int} (hx:Nx h.ords o.key o.tx v) (hv:t.id≠v):
  (⟨t.id,v,3,o.key⟩:Edge)∈Zl (Zh h):=by
 rw[Zg0,hr,Bool.true_and];obtain⟨⟨u,hu⟩,_,_,_⟩:=hx.ids hr;unfold Zdb;simp only[hu,ht];rw[if_neg hv,if_neg (by decide),if_neg (by decide),if_pos trivial];exact Zh6 ho hrd rfl hne (by simp only[hl,Bool.true_and];exact(ZaP hr _ _ _).2 hx)
theorem Zjm {id key:Int} {l:List HOp} {f:Ver→Bool} (hb:ZcP id l key f=true):∃o∈l,o.read=true∧o.key=key∧o.tx≠id∧f ⟨o.tx,o.key,o.nth⟩=true:=by
 unfold ZcP at hb;rw[List.any_eq_true]at hb;obtain⟨o,ho,hb⟩:=hb;simp only[Bool.and_eq_true,beq_iff_eq,Bool.not_eq_true',beq_eq_false_iff_ne]at hb;obtain⟨⟨⟨h1,h2⟩,h3⟩,h4⟩:=hb;have hv:Zo o=⟨o.tx,o.key,o.nth⟩:=by unfold Zo;rw[if_pos h1]
 rw[hv]at h4;exact⟨o,ho,h1,h2,h3,h4⟩
/-! an order that agrees goes along -/
theorem Zc7 (hA:AgreeP h O) {o:HOrd} (ho:o∈h.ords) {i j:Nat} {x y:Int} (hi:o.txs[i]? =some x) (hj:o.txs[j]? =some y) (hij:i<j):O.idxOf x<O.idxOf y:=by
 have hs:(O.filter (fun x=>decide (x∈o.txs))).Pairwise fun a b=>O.idxOf a<O.idxOf b:=by
  have hO:O.Pairwise fun a b=>O.idxOf a<O.idxOf b:=by
   rw[List.pairwise_iff_getElem];intro a b ha hb hab;rw[Zee hA.nd ha,Zee hA.nd hb];exact hab
  exact hO.sublist List.filter_sublist
 rw[hA.ords o ho,List.pairwise_iff_getElem]at hs;obtain⟨h1,e1⟩:=List.getElem?_eq_some_iff.1 hi;obtain⟨h2,e2⟩:=List.getElem?_eq_some_iff.1 hj;rw[←e1,←e2];exact hs i j h1 h2 hij
theorem Zf8 (hA:AgreeP h O):Zhs h O:=by
 intro e he;have hr:=hA.right;rw[Zg0,hr,Bool.true_and]at he;unfold Zdb at he
 cases ha:Zi h.txs e.f with
 |none=>rw[ha]at he;cases he
 |some a=>
  cases hb:Zi h.txs e.t with
  |none=>rw[ha,hb]at he;cases he
  |some b=>
   rw[ha,hb]at he;simp only at he;obtain⟨ha1,ha2⟩:=ZaS ha;obtain⟨hb1,hb2⟩:=ZaS hb;rw[List.mem_filter]at ha1 hb1
   split at he
   ·cases he
   ·rename_i hne
    split at he
    ·obtain⟨o,ho,hk,i,h1,h2⟩:=(ZaP hr _ _ _).1 he
     cases i with
     |zero=>
      exfalso
      have h0:e.f=0:=by simpa using h1.symm
      have:=Zb5 hr ha1.1;omega
     |succ i=>exact Zc7 hA ho h1 h2 (by omega)
    ·split at he
     ·obtain⟨o,ho,hrd,hk,hne2,hf⟩:=Zjm he;simp only[Bool.and_eq_true,beq_iff_eq]at hf;obtain⟨hl,_⟩:=hA.reads b hb1.1 hb1.2 o ho hrd hne2;rw[hf.1]at hl;rcases hl with ⟨h0,_⟩|⟨_,h2,_,_⟩
      ·have:=Zb5 hr ha1.1;omega
      ·rw[hb2]at h2;exact h2
     ·split at he
      ·obtain⟨o,ho,hrd,hk,hne2,hf⟩:=Zjm he;simp only[Bool.and_eq_true]at hf;obtain⟨hl,_⟩:=hA.reads a ha1.1 ha1.2 o ho hrd hne2;have hx:=(ZaP hr _ _ _).1 hf.2;rw[ha2]at hl;obtain⟨q,hq,hqk,i,h1,h2⟩:=hx;have hvm:e.t∈q.txs:=List.mem_of_getElem? h2;obtain⟨v,hv,hvw⟩:=(Zdf hr hq e.t).1 hvm;have hwv:wrT h.txs e.t o.key=true:=by rw[Zcv hv,hk,←hqk];exact decide_eq_true hvw
       have htO:e.t∈O:=(hA.mem _).2 ⟨v,hv⟩;have hfO:e.f∈O:=(hA.mem _).2 ⟨a,ha⟩
       apply Classical.byContradiction
       intro hlt
       have hlt2:O.idxOf e.t<O.idxOf e.f:=by
        rcases Nat.lt_trichotomy (O.idxOf e.f) (O.idxOf e.t)with h|h|h
        ·exact absurd h hlt
        ·exact absurd (ZhH hfO htO h) hne
        ·exact h
       rcases hl with ⟨_,hno⟩|⟨huO,hu1,hu2,hu3⟩
       ·rw[hno _ htO hlt2]at hwv;cases hwv
       ·have hle:=hu3 _ htO hlt2 hwv
        cases i with
        |zero=>
         have h0:o.tx=0:=by simpa using h1.symm
         obtain⟨u,hu⟩:=(hA.mem _).1 huO;obtain⟨g1,g2⟩:=ZaS hu;rw[List.mem_filter]at g1;have:=Zb5 hr g1.1;omega
        |succ i=>
         have:=Zc7 hA hq h1 h2 (by omega);omega
      ·cases he
/-! an order that goes along agrees,if there are no bad reads -/
theorem Zky (hr:Za h=true) (hn:O.Nodup) (hm:∀x,x∈O↔∃t,Zi h.txs x=some t) (h2:ZB h 2=false) (h3:ZB h 3=false) (hA:Zhs h O):AgreeP h O:=by
 have hsort:∀o∈h.ords,∀i j:Nat,∀x y,o.txs[i]? =some x→o.txs[j]? =some y→i<j→O.idxOf x<O.idxOf y:=by
  intro o ho i
  have step:∀k x y,o.txs[k]? =some x→o.txs[k+1]? =some y→O.idxOf x<O.idxOf y:=fun k x y hx hy=>by
   obtain⟨_,_,h1⟩:=ZaN hr ho (List.mem_of_getElem? hx);exact hA _ (Zqx hr ⟨o,ho,rfl,k+1,hx,hy⟩ (by omega))
  intro j
  induction j with
  |zero=>intro x y _ _ hij;omega
  |succ j ih=>
   intro x y hx hy hij;obtain⟨hj,_⟩:=List.getElem?_eq_some_iff.1 hy;have hz:o.txs[j]? =some o.txs[j]:=Qg (by omega);rcases Nat.lt_or_ge i j with h|h
   ·exact Nat.lt_trans (ih x _ hx hz h) (step j _ y hz hy)
   ·obtain rfl:i=j:=by omega
    exact step i x y hx hy
 have hbad:∀p,(p=2∨p=3)→ZB h p=false→Zct h p=[]:=fun p hp hh=>by
  unfold ZB at hh;rw[if_pos hp,decide_eq_false_iff_not]at hh;exact List.eq_nil_of_length_eq_zero (by omega)
 have hb2:=hbad 2 (Or.inl rfl) h2;have hb3:=hbad 3 (Or.inr rfl) h3;unfold Zct at hb2 hb3;rw[if_pos hr]at hb2 hb3;refine⟨hr,hn,hm,fun o ho=> ?_,fun t ht hd o ho hrd hne=> ?_⟩
 ·refine ZbG (r:=fun a b=>O.idxOf a<O.idxOf b) (fun a=>Nat.lt_irrefl _) (fun a b c=>Nat.lt_trans) ?_ ?_ ?_
  ·have hO:O.Pairwise fun a b=>O.idxOf a<O.idxOf b:=by
    rw[List.pairwise_iff_getElem];intro a b ha hb hab;rw[Zee hn ha,Zee hn hb];exact hab
   exact hO.sublist List.filter_sublist
  ·rw[List.pairwise_iff_getElem];intro a b ha hb hab;exact hsort o ho a b _ _ (Qg ha) (Qg hb) hab
  ·intro x;rw[List.mem_filter,decide_eq_true_eq];refine⟨fun h=>h.2,fun h=>⟨?_,h⟩⟩;obtain⟨t,ht,_⟩:=ZaN hr ho h;exact(hm x).2 ⟨t,ht⟩
 ·have htd:=Zbn hr ht hd;have htO:t.id∈O:=(hm _).2 ⟨t,htd⟩;have hvo:Zo o=⟨o.tx,o.key,o.nth⟩:=by unfold Zo;rw[if_pos hrd]
  have key:∀(hl:ZbS h.txs ⟨o.tx,o.key,o.nth⟩=true) (q:HOrd) (hq:q∈h.ords) (hqk:q.key=o.key) (i:Nat) (h1:(0::q.txs)[i]? =some o.tx) (j:Nat) (x:Int) (hx:q.txs[j]? =some x) (hij:i≤j),O.idxOf t.id≤O.idxOf x:=by
   intro hl q hq hqk i h1 j x hx hij;obtain⟨hj,_⟩:=List.getElem?_eq_some_iff.1 hx;obtain⟨v,hv⟩:∃v,q.txs[i]? =some v:=⟨_,Qg (by omega)⟩;have hnx:Nx h.ords o.key o.tx v:=⟨q,hq,hqk,i,h1,hv⟩
   have hvx:O.idxOf v≤O.idxOf x:=by
    rcases Nat.lt_or_ge i j with hlt|hge
    ·exact Nat.le_of_lt (hsort q hq i j v x hv hx hlt)
    ·obtain rfl:i=j:=by omega
     rw[hv]at hx;cases hx;exact Nat.le_refl _
   by_cases hvt:t.id=v
   ·rw[hvt];exact hvx
   ·exact Nat.le_of_lt (Nat.lt_of_lt_of_le (hA _ (Zqz hr htd ho hrd hne hl hnx hvt)) hvx)
  by_cases h0:o.tx=0
  ·refine⟨Or.inl ⟨h0,fun x hx hlt=> ?_⟩,Or.inl h0⟩
   cases hw:wrT h.txs x o.key with
   |false=>rfl
   |true=>
    exfalso
    obtain⟨u,hu⟩:=(hm x).1 hx;rw[Zcv hu,decide_eq_true_eq]at hw;obtain⟨q,hq,hqk,hxq⟩:=Zgn hr hu hw;obtain⟨j,hj,rfl⟩:=List.mem_iff_getElem.1 hxq;have:=key (by unfold ZbS;rw[if_pos h0]) q hq hqk 0 (by rw[h0];rfl) j _ (Qg hj) (Nat.zero_le _);omega
  ·obtain⟨u,hu⟩:=Zf0 hr ht ho hrd h0 hne;obtain⟨hum,hui⟩:=Zai hu
   have hbO:Zbu h.txs t 2 o=false∧Zbu h.txs t 3 o=false:=by
    have hnb:∀p,ZdQ h.txs p [] h.txs=[]→Zbu h.txs t p o=false:=fun p hp=>by
     cases hq:Zbu h.txs t p o with
     |false=>rfl
     |true=>
      exfalso
      obtain⟨j,hj,rfl⟩:=List.mem_iff_getElem.1 ho;have:=(Ze6 h.txs p ⟨t.id,(j:Int),Zo t.ops[j]⟩ h.txs []).2 (Or.inr ⟨t,ht,j,t.ops[j],Qg hj,hq,rfl⟩);rw[hp]at this;cases this
    exact⟨hnb 2 hb2,hnb 3 hb3⟩
   obtain⟨g2,g3⟩:=hbO;unfold Zbu at g2 g3;rw[hd,hrd,hu]at g2 g3;have e0:(o.tx==0)=false:=by simpa using h0
   have e1:(o.tx==t.id)=false:=by simpa using hne
   rw[e0,e1]at g2 g3;have hud:u.done=true:=by simpa using g2
   have hge:¬o.nth<(Zg u.ops o.key:Int):=by simpa using g3
   have ZhI:=Zh5 hr ht ho (by unfold ZbD;rw[hvo];simp[hrd,h0,hne]);rw[hvo]at ZhI;unfold Z9 at ZhI;rw[if_neg (fun e=>h0 e.1),hu]at ZhI;simp only[Bool.and_eq_true,decide_eq_true_eq]at ZhI;have hnth:o.nth=(Zg u.ops o.key:Int):=by omega
   have hudn:Zi h.txs u.id=some u:=Zbn hr hum hud
   have hl:ZbS h.txs ⟨o.tx,o.key,o.nth⟩=true:=by
    unfold ZbS;simp only;rw[if_neg h0,←hui,hudn];simp[hnth]
   have hwu:0<Zg u.ops o.key:=by omega
   have huO:o.tx∈O:=by rw[←hui];exact(hm _).2 ⟨u,hudn⟩
   have hlt:O.idxOf o.tx<O.idxOf t.id:=by
    rw[←hui];exact hA _ (Zqy hr htd hudn ho hrd hui.symm (by rw[hui];exact hne) hl)
   refine⟨Or.inr ⟨huO,hlt,by rw[←hui,Zcv hudn];exact decide_eq_true hwu,fun x hx hxl hwx=> ?_⟩,Or.inr ⟨u,hu,hnth⟩⟩
   apply Classical.byContradiction
   intro hgt;obtain⟨v,hv⟩:=(hm x).1 hx;rw[Zcv hv,decide_eq_true_eq]at hwx;obtain⟨q,hq,hqk,hxq⟩:=Zgn hr hv hwx;have huq:o.tx∈q.txs:=by rw[←hui];exact(Zdf hr hq _).2 ⟨u,hudn,by rw[hqk];exact hwu⟩
   obtain⟨i,hi,hie⟩:=List.mem_iff_getElem.1 huq;obtain⟨j,hj,rfl⟩:=List.mem_iff_getElem.1 hxq
   have hij:i<j:=by
    rcases Nat.lt_trichotomy i j with hc|hc|hc
    ·exact hc
    ·subst hc;rw[hie]at hgt;omega
    ·have:=hsort q hq j i _ _ (Qg hj) (Qg hi) hc;rw[hie]at this;omega
   have:=key hl q hq hqk (i+1) (by show q.txs[i]? =_;rw[Qg hi,hie]) j _ (Qg hj) (by omega);omega
/-! along all edges none goes round -/
theorem ZnN (hA:Zhs h O) {mask:Int} {x y:Int} (k:RchE (Zj (Zl (Zh h)) mask) x y):O.idxOf x≤O.idxOf y:=by
 induction k with
 |refl=>exact Nat.le_refl _
 |step h1 h2 h3 ih=>
  have:=hA _ (memKept.1 h2).1;rw[h3]at this;omega
theorem Zkx (hA:Zhs h O) (mask must:Int):Zah (Zl (Zh h)) mask must=false:=by
 cases hq:Zah (Zl (Zh h)) mask must with
 |false=>rfl
 |true=>
  obtain⟨e,he,_,hk⟩:=(Zak _ _ _).1 hq;have h1:=ZnN hA hk;have h2:=hA e (memKept.1 he).1;omega
theorem ZX (hA:AgreeP h O) (p:Int):ZB h p=false:=by
 unfold ZB
 split
 ·rename_i hp
  have:Zct h p=[]:=by
   rw[List.eq_nil_iff_forall_not_mem];intro b hb;unfold Zct at hb;rw[if_pos hA.right]at hb;rcases(Ze6 _ _ _ _ _).1 hb with hb|⟨t,ht,j,o,hj,hbo,_⟩
   ·cases hb
   ·have ho:o∈t.ops:=List.mem_of_getElem? hj;unfold Zbu at hbo;simp only[Bool.and_eq_true,Bool.not_eq_true',beq_eq_false_iff_ne]at hbo;obtain⟨⟨⟨⟨g1,g2⟩,g3⟩,g4⟩,g5⟩:=hbo;obtain⟨hl,hn⟩:=hA.reads t ht g1 o ho g2 g4;obtain⟨u,hu,hnth⟩:=hn.resolve_left g3;rw[hu]at g5;simp only at g5
    have hud:u.done=true:=by
     rcases hl with ⟨h0,_⟩|⟨h1,_,_,_⟩
     ·exact absurd h0 g3
     ·obtain⟨u',hu'⟩:=(hA.mem _).1 h1;obtain⟨k1,k2⟩:=ZO hu';rw[hu]at k1;cases k1;exact k2
    split at g5
    ·rw[hud]at g5;cases g5
    ·simp only[Bool.and_eq_true,decide_eq_true_eq]at g5;omega
  rw[this];rfl
 ·exact Zkx (Zf8 hA) _ _
end
end
/- Orders as if one by one,plain:whether one agrees,as it is computed. -/
section
def ZY (txs:List HTx) (id:Int):HTx:=(Zd txs id).getD ⟨0,false,[],none,0⟩
def Zdt (txs:List HTx) (ahead:List Int) (t:HTx):Bool:=
 t.ops.all fun o=> !o.read||(o.tx==t.id||(o.tx==Zan txs ahead o.key&&(o.tx==0||o.nth==(Zg (ZY txs o.tx).ops o.key:Int))))
def ZhX (a b:List Int):List Int:=a.filter fun x=>decide (x∈b)
def Zfx (h:Hist) (O:List Int):Bool:=
 Za h&&(ZcF O (Zc h.txs)&&(h.ords.all (fun o=>ZhX O o.txs==o.txs)&&(List.range O.length).all fun i=>Zdt h.txs (O.take i) (ZY h.txs (O.getD i 0))))
section
variable {h:Hist} {O:List Int}
theorem ZeW (hr:Za h=true):ZcF O (Zc h.txs)=true↔O.Nodup∧∀x,x∈O↔∃t,Zi h.txs x=some t:=by
 have hd:(Zc h.txs).Nodup:=ZeF hr
 constructor
 ·intro e;rw[Zer,beq_iff_eq]at e;have hp:O.Perm (Zc h.txs):=(ZA _).symm.trans (e▸ZA _);exact⟨hp.nodup_iff.2 hd,fun x=>(hp.mem_iff).trans (ZaG hr x)⟩
 ·rintro⟨h1,h2⟩;have hp:O.Perm (Zc h.txs):=(List.perm_ext_iff_of_nodup h1 hd).2 fun x=>(h2 x).trans (ZaG hr x).symm
  unfold ZcF;rw[Bool.and_eq_true,beq_iff_eq,List.all_eq_true];exact⟨hp.length_eq,fun x _=>by rw[hp.count_eq];simp⟩
theorem Zcb {x:Int} {t:HTx} (ht:Zi h.txs x=some t):ZY h.txs x=t∧t.id=x∧t∈h.txs∧t.done=true:=by
 obtain⟨h1,h2⟩:=ZO ht;obtain⟨h3,h4⟩:=Zai h1;exact⟨by unfold ZY;rw[h1];rfl,h4,h3,h2⟩
theorem agreeS_iff:Zfx h O=true↔AgreeP h O:=by
 unfold Zfx;rw[Bool.and_eq_true,Bool.and_eq_true,Bool.and_eq_true,List.all_eq_true,List.all_eq_true]
 constructor
 ·rintro⟨hr,hp,ho,hd⟩;obtain⟨hn,hm⟩:=(ZeW hr).1 hp;refine⟨hr,hn,hm,fun o hoo=>by simpa[ZhX]using ho o hoo,fun t ht htd o hoo hrd hne=> ?_⟩;have htO:t.id∈O:=(hm _).2 ⟨t,Zbn hr ht htd⟩;have hi:O.idxOf t.id<O.length:=List.idxOf_lt_length_of_mem htO;have hx:O.getD (O.idxOf t.id) 0=t.id:=by rw[List.getD_eq_getElem?_getD,Qg hi,List.getElem_idxOf hi];rfl
  have h1:=hd _ (List.mem_range.2 hi);rw[hx,(Zcb (Zbn hr ht htd)).1]at h1;unfold Zdt at h1;rw[List.all_eq_true]at h1;have h2:=h1 o hoo;have e1:(o.tx==t.id)=false:=by simpa using hne
  rw[hrd,e1,Bool.not_true,Bool.false_or,Bool.false_or,Bool.and_eq_true,beq_iff_eq,Bool.or_eq_true,beq_iff_eq,beq_iff_eq]at h2;have hl:=ZcT h.txs hn o.key (O.idxOf t.id) (Nat.le_of_lt hi);rw[←h2.1]at hl;refine⟨hl,?_⟩;rcases h2.2 with h0|h0
  ·exact Or.inl h0
  ·rcases hl with ⟨h3,_⟩|⟨h3,_,_,_⟩
   ·exact Or.inl h3
   ·obtain⟨u,hu⟩:=(hm _).1 h3;rw[(Zcb hu).1]at h0;exact Or.inr ⟨u,(ZO hu).1,h0⟩
 ·intro hA;refine⟨hA.right,(ZeW hA.right).2 ⟨hA.nd,hA.mem⟩,fun o hoo=>by simpa[ZhX]using hA.ords o hoo,fun i hi=> ?_⟩;have hi:=List.mem_range.1 hi;have hx:O.getD i 0=O[i]:=by rw[List.getD_eq_getElem?_getD,Qg hi];rfl
  obtain⟨t,ht⟩:=(hA.mem _).1 (List.getElem_mem hi);obtain⟨g1,g2,g3,g4⟩:=Zcb ht;rw[hx,g1];unfold Zdt;rw[List.all_eq_true];intro o hoo
  cases hrd:o.read with
  |false=>rfl
  |true=>
   by_cases hne:o.tx=t.id
   ·simp[hne]
   ·obtain⟨hl,hn⟩:=hA.reads t g3 g4 o hoo hrd hne;have hidx:O.idxOf t.id=i:=by rw[g2];exact Zee hA.nd hi
    rw[hidx]at hl;have e1:=Zg8 hl (ZcT h.txs hA.nd o.key i (Nat.le_of_lt hi));rw[Bool.not_true,Bool.false_or,Bool.or_eq_true,Bool.and_eq_true,beq_iff_eq,beq_iff_eq,Bool.or_eq_true,beq_iff_eq,beq_iff_eq];refine Or.inr ⟨e1,?_⟩;rcases hn with h0|⟨u,hu,h0⟩
    ·exact Or.inl h0
    ·right
     unfold ZY;rw[hu];exact h0
def ZcH (h:Hist):Bool:= !(ZB h 1)&&(!(ZB h 2)&&(!(ZB h 3)&&(!(ZB h 4)&& !(ZB h 5))))
theorem ZfV (hr:Za h=true) {O:List Int} (ho:Za4 (Zc h.txs) (Zl (Zh h))=some O):Zfx h O=ZcH h:=by
 have hm:∀x,x∈O↔∃t,Zi h.txs x=some t:=fun x=>(Zgh ho x).trans (ZaG hr x)
 rw[Bool.eq_iff_iff,agreeS_iff]
 constructor
 ·intro hA;unfold ZcH;rw[ZX hA,ZX hA,ZX hA,ZX hA,ZX hA];rfl
 ·intro hn;unfold ZcH at hn;simp only[Bool.and_eq_true,Bool.not_eq_true']at hn;refine Zky hr (ZgQ ho) hm hn.2.1 hn.2.2.1 fun e he=> ?_
  have h1:=(ZdS _ _).1 (ZgR ho) e he;obtain⟨x,hx,rfl⟩:=List.mem_map.1 he;obtain⟨⟨a,ha,da⟩,⟨b,hb,db⟩,_,_⟩:=ZhM hr hx;obtain⟨ha1,ha2⟩:=Zai ha;obtain⟨hb1,hb2⟩:=Zai hb;exact h1 ((hm _).2 ⟨a,by rw[←ha2];exact Zbn hr ha1 da⟩) ((hm _).2 ⟨b,by rw[←hb2];exact Zbn hr hb1 db⟩)
theorem Zf3 (hr:Za h=true):decide (Za4 (Zc h.txs) (Zl (Zh h))=none)=(ZB h 4||ZB h 5):=by
 have ho:=Zkp (ids:=Zc h.txs) (l:=Zl (Zh h)) (fun e he=>(Zoo e he).1) (fun e he=>by
  obtain⟨x,hx,rfl⟩:=List.mem_map.1 he;obtain⟨⟨a,ha,da⟩,⟨b,hb,db⟩,_,_⟩:=ZhM hr hx;obtain⟨ha1,ha2⟩:=Zai ha;obtain⟨hb1,hb2⟩:=Zai hb;exact⟨(ZaG hr _).2 ⟨a,by rw[←ha2];exact Zbn hr ha1 da⟩,(ZaG hr _).2 ⟨b,by rw[←hb2];exact Zbn hr hb1 db⟩⟩)
 have hs:=Zkm (Zl (Zh h));have h4:ZB h 4=Zah (Zl (Zh h)) 6 0:=by unfold ZB;rw[if_neg (by decide)];rfl
 have h5:ZB h 5=Zah (Zl (Zh h)) 14 8:=by unfold ZB;rw[if_neg (by decide)];rfl
 rw[h4,h5,Bool.eq_iff_iff,decide_eq_true_eq,ho,hs,Bool.or_eq_true]
theorem ZoH {O':List Int} (hA:AgreeP h O) (hB:AgreeP h O') (key:Int):Zan h.txs O key=Zan h.txs O' key:=by
 have key1:∀{A B:List Int},AgreeP h A→AgreeP h B→Zeh h.txs A A.length key (Zan h.txs A key)→Zeh h.txs B B.length key (Zan h.txs A key):=by
  intro A B hA hB hl;rcases hl with ⟨h0,h1⟩|⟨h1,h2,h3,h4⟩
  ·refine Or.inl ⟨h0,fun x hx _=> ?_⟩;have hxA:x∈A:=(hA.mem x).2 ((hB.mem x).1 hx);exact h1 x hxA (List.idxOf_lt_length_of_mem hxA)
  ·have huB:Zan h.txs A key∈B:=(hB.mem _).2 ((hA.mem _).1 h1);refine Or.inr ⟨huB,List.idxOf_lt_length_of_mem huB,h3,fun x hx _ hwx=> ?_⟩;obtain⟨u,hu⟩:=(hA.mem _).1 h1;obtain⟨v,hv⟩:=(hB.mem _).1 hx;have hxA:x∈A:=(hA.mem x).2 ⟨v,hv⟩;have hle:=h4 x hxA (List.idxOf_lt_length_of_mem hxA) hwx;rw[Zcv hu,decide_eq_true_eq]at h3;rw[Zcv hv,decide_eq_true_eq]at hwx;obtain⟨q,hq,hqk,hxq⟩:=Zgn hA.right hv hwx;have huq:Zan h.txs A key∈q.txs:=(Zdf hA.right hq _).2 ⟨u,hu,by rw[hqk];exact h3⟩;obtain⟨i,hi,hie⟩:=List.mem_iff_getElem.1 huq;obtain⟨j,hj,hje⟩:=List.mem_iff_getElem.1 hxq;rcases Nat.lt_trichotomy i j with hc|hc|hc
   ·have:=Zc7 hA hq (Qg hi) (Qg hj) hc;rw[hie,hje]at this;omega
   ·subst hc;rw[hie]at hje;rw[hje];exact Nat.le_refl _
   ·have:=Zc7 hB hq (Qg hj) (Qg hi) hc;rw[hie,hje]at this;exact Nat.le_of_lt this
 have ha:=ZcT h.txs hA.nd key O.length (Nat.le_refl _);have hb:=ZcT h.txs hB.nd key O'.length (Nat.le_refl _);rw[List.take_length]at ha hb;exact Zg8 (key1 hA hB ha) hb
end
end
/- Orders as if one by one,plain:what the program computes,of each key the version that was written last,is the document's. -/
section
def Zhw (t:HTx) (f:Int→Option Ver) (k:Int):Option Ver:=if k∈ZI t.ops then some ⟨t.id,k,(Zg t.ops k:Int)⟩ else f k
def ZfA (f:Int→Option Ver) (t:HTx):Bool:=t.ops.all fun o=> !o.read||(o.tx==t.id||Zo o==(f o.key).getD ⟨0,o.key,0⟩)
def ZN (txs:List HTx):List Int→(Int→Option Ver)→Int→Option Ver
 |[],f=>f
 |id::l,f=>ZN txs l (Zhw (ZY txs id) f)
def Zbq (txs:List HTx):List Int→(Int→Option Ver)→Bool
 |[],_=>true
 |id::l,f=>ZfA f (ZY txs id)&&Zbq txs l (Zhw (ZY txs id) f)
def Z1 (txs:List HTx) (l:List Int) (k:Int):List Int:=l.filter fun id=>decide (k∈ZI (ZY txs id).ops)
def Zbp (h:Hist) (O:List Int):Bool:=Za h&&(ZcF O (Zc h.txs)&&(Zbq h.txs O (fun _=>none)&&h.ords.all fun o=>o.txs==Z1 h.txs O o.key))
theorem ZfM (txs:List HTx) (id k:Int):wrT txs id k=decide (k∈ZI (ZY txs id).ops):=by
 unfold wrT ZY
 cases Zd txs id with
 |none=>rfl
 |some t=>
  show decide _=decide _
  rw[Bool.eq_iff_iff,decide_eq_true_eq,decide_eq_true_eq];exact(Zcf t.ops k).symm
theorem ZpN {txs:List HTx} {id k:Int} (h:wrT txs id k=true):(ZY txs id).id=id:=by
 unfold wrT at h;unfold ZY
 cases hf:Zd txs id with
 |none=>rw[hf]at h;cases h
 |some t=>exact(Zai hf).2
theorem Zci (txs:List HTx) (id:Int):∀(l:List Int) (f:Int→Option Ver),ZN txs (l++[id]) f=Zhw (ZY txs id) (ZN txs l f)
 |[],_=>rfl
 |_::l,f=>Zci txs id l _
theorem Zc4 (txs:List HTx) (k:Int):∀(n:Nat) (l:List Int),l.length=n→
  (ZN txs l (fun _=>none) k=none∧Zan txs l k=0∧∀x∈l,wrT txs x k=false)∨
  (ZN txs l (fun _=>none) k=some ⟨Zan txs l k,k,(Zg (ZY txs (Zan txs l k)).ops k:Int)⟩∧Zan txs l k∈l∧wrT txs (Zan txs l k) k=true)
 |0,l,h=>by
  obtain rfl:=List.eq_nil_of_length_eq_zero h;exact Or.inl ⟨rfl,rfl,fun x hx=>by cases hx⟩
 |n+1,l,h=>by
  obtain⟨m,id,rfl⟩:∃m id,l=m++[id]:=⟨l.dropLast,l.getLast (by intro e;rw[e]at h;cases h),(List.dropLast_concat_getLast _).symm⟩;have ih:=Zc4 txs k n m (by simpa using h);rw[Zci,Zg3];unfold Zhw
  by_cases hw:wrT txs id k=true
  ·have hk:k∈ZI (ZY txs id).ops:=by rw[ZfM]at hw;exact of_decide_eq_true hw
   rw[if_pos hk,if_pos hw,ZpN hw];exact Or.inr ⟨rfl,by simp,hw⟩
  ·have hk:¬k∈ZI (ZY txs id).ops:=fun e=>hw (by rw[ZfM];exact decide_eq_true e)
   rw[if_neg hk,if_neg hw];rcases ih with ⟨h1,h2,h3⟩|⟨h1,h2,h3⟩
   ·refine Or.inl ⟨h1,h2,fun x hx=> ?_⟩;rcases List.mem_append.1 hx with hx|hx
    ·exact h3 x hx
    ·rw[List.mem_singleton.1 hx];simpa using hw
   ·exact Or.inr ⟨h1,List.mem_append_left _ h2,h3⟩
section
variable {h:Hist} {O:List Int}
theorem Zod (hr:Za h=true) {t:HTx} (ht:t∈h.txs) {o:HOp} (ho:o∈t.ops):opB o=true:=by
 have h0:=(ZbX hr ht).1;unfold Zag at h0
 split at h0
 ·cases h0
 ·split at h0
  ·cases h0
  ·have key:∀n,ZV t.id t.ops n=0→∀j,j<n→ZaI t.id t.ops j=0:=by
    intro n
    induction n with
    |zero=>intro _ j hj;omega
    |succ n ih=>
     intro e j hj;unfold ZV at e
     split at e
     ·rename_i e1
      by_cases hjn:j=n
      ·rw[hjn];exact e
      ·exact ih e1 j (by omega)
     ·rename_i e1;exact absurd e e1
   obtain⟨j,hj,rfl⟩:=List.mem_iff_getElem.1 ho;have hb:=key _ h0 j hj;unfold ZaI at hb;rw[Qg hj]at hb;simp only at hb
   split at hb
   ·cases hb
   ·rename_i hq;simpa using hq
theorem ZmM (hr:Za h=true) {t:HTx} (ht:t∈h.txs) {o:HOp} (ho:o∈t.ops) (hrd:o.read=true) (h0:o.tx=0):o.nth=0:=by
 have:=Zod hr ht ho;unfold opB ZaT Zo at this;rw[if_pos hrd,if_pos hrd,h0]at this;simp only[Bool.and_eq_true,Bool.or_eq_true,beq_iff_eq]at this;rcases this.2 with h1|h1
 ·exact h1.2
 ·have:=h1.1.1;unfold idB at this;simp at this
theorem Zlr (hr:Za h=true) {t:HTx} (ht:t∈h.txs) {l:List Int} (hl:∀x∈l,x≠0):ZfA (ZN h.txs l (fun _=>none)) t=Zdt h.txs l t:=by
 unfold ZfA Zdt;rw[Bool.eq_iff_iff,List.all_eq_true,List.all_eq_true];refine forall_congr' fun o=>forall_congr' fun ho=> ?_
 cases hrd:o.read with
 |false=>simp
 |true=>
  have hv:Zo o=⟨o.tx,o.key,o.nth⟩:=by unfold Zo;rw[if_pos hrd]
  rw[hv]
  by_cases he:o.tx=t.id
  ·simp[he]
  ·have e1:(o.tx==t.id)=false:=by simpa using he
   rw[e1,Bool.not_true,Bool.false_or,Bool.false_or,Bool.false_or,Bool.false_or,beq_iff_eq,Bool.and_eq_true,beq_iff_eq,Bool.or_eq_true,beq_iff_eq,beq_iff_eq];rcases Zc4 h.txs o.key l.length l rfl with ⟨h1,h2,_⟩|⟨h1,h2,h3⟩
   ·rw[h1,h2,Option.getD_none,Ver.mk.injEq]
    constructor
    ·rintro⟨a,_,_⟩;exact⟨a,Or.inl a⟩
    ·rintro⟨a,_⟩;exact⟨a,rfl,ZmM hr ht ho hrd a⟩
   ·rw[h1,Option.getD_some,Ver.mk.injEq];have hne:=hl _ h2
    constructor
    ·rintro⟨a,_,b⟩;exact⟨a,Or.inr (by rw[a];exact b)⟩
    ·rintro⟨a,b⟩;rcases b with b|b
     ·exact absurd (a.symm.trans b) hne
     ·exact⟨a,rfl,by rw[a]at b;exact b⟩
theorem Zjd (hr:Za h=true) (hO:∀x∈O,∃t,Zi h.txs x=some t):∀(m l:List Int),l++m=O→Zbq h.txs m (ZN h.txs l (fun _=>none))=(List.range m.length).all fun i=>Zdt h.txs (O.take (l.length+i)) (ZY h.txs (m.getD i 0))
 |[],l,_=>rfl
 |id::m,l,e=>by
  have ih:=Zjd hr hO m (l++[id]) (by rw[←e];simp);rw[Zci]at ih;unfold Zbq;rw[ih,List.length_cons,List.range_succ_eq_map,List.all_cons,List.all_map];have hid:id∈O:=by rw[←e];simp
  obtain⟨t,ht⟩:=hO id hid;obtain⟨g1,g2,g3,g4⟩:=Zcb ht
  have h1:Zdt h.txs (O.take (l.length+0)) (ZY h.txs ((id::m).getD 0 0))=ZfA (ZN h.txs l (fun _=>none)) (ZY h.txs id):=by
   rw[show(id::m).getD 0 0=id from rfl,Nat.add_zero,←e,List.take_left,g1];refine(Zlr hr g3 fun x hx=> ?_).symm;obtain⟨u,hu⟩:=hO x (by rw[←e];exact List.mem_append_left _ hx);obtain⟨_,k2,k3,_⟩:=Zcb hu;have:=Zb5 hr k3;omega
  rw[h1]
  congr 1
  congr 1
  funext i
  simp only[Function.comp_apply,List.length_append,List.length_cons,List.length_nil];rw[show l.length+(i+1)=l.length+(0+1)+i by omega];rfl
theorem Zml (hr:Za h=true) (hm:∀x,x∈O↔∃t,Zi h.txs x=some t) {o:HOrd} (ho:o∈h.ords):Z1 h.txs O o.key=ZhX O o.txs:=by
 unfold Z1 ZhX;refine List.filter_congr fun x hx=> ?_
 obtain⟨t,ht⟩:=(hm x).1 hx;obtain⟨g1,g2,g3,g4⟩:=Zcb ht;rw[g1,Bool.eq_iff_iff,decide_eq_true_eq,decide_eq_true_eq,Zcf,Zdf hr ho x]
 constructor
 ·intro h;exact⟨t,ht,h⟩
 ·rintro⟨u,hu,h⟩;rw[ht]at hu;cases hu;exact h
theorem ZiM (h:Hist) (O:List Int):Zbp h O=Zfx h O:=by
 unfold Zbp Zfx
 cases hr:Za h with
 |false=>rfl
 |true=>
  cases hp:ZcF O (Zc h.txs)with
  |false=>rfl
  |true=>
   obtain⟨hn,hm⟩:=(ZeW hr).1 hp;have h1:=Zjd hr (O:=O) (fun x hx=>(hm x).1 hx) O [] rfl;rw[show ZN h.txs [] (fun _=>none)=(fun _=>none) from rfl]at h1
   have h2:(h.ords.all fun o=>o.txs==Z1 h.txs O o.key)=h.ords.all (fun o=>ZhX O o.txs==o.txs):=by
    rw[Bool.eq_iff_iff,List.all_eq_true,List.all_eq_true];refine forall_congr' fun o=>forall_congr' fun ho=> ?_
    rw[Zml hr hm ho,beq_iff_eq,beq_iff_eq];exact eq_comm
   rw[h1,h2];simp only[List.length_nil,Nat.zero_add];rw[Bool.true_and,Bool.true_and,Bool.true_and,Bool.true_and,Bool.and_comm]
end
/-! who wrote each key last -/
def Zaw (txs:List HTx):List Int→List Int→List Int
 |[],s=>s
 |id::l,s=>Zaw txs l ((ZI (ZY txs id).ops).foldl (fun a k=>ZZ k a) s)
theorem Zjq (x:Int):∀(ks s:List Int),x∈ks.foldl (fun a k=>ZZ k a) s↔x∈ks∨x∈s
 |[],s=>by simp
 |k::ks,s=>by
  rw[List.foldl_cons,Zjq x ks,Zbi,List.mem_cons]
  constructor
  ·rintro(h|h|h)
   ·exact Or.inl (Or.inr h)
   ·exact Or.inl (Or.inl h)
   ·exact Or.inr h
  ·rintro((h|h)|h)
   ·exact Or.inr (Or.inl h)
   ·exact Or.inl h
   ·exact Or.inr (Or.inr h)
theorem ZkK:∀(ks s:List Int),s.Pairwise (·<·)→(ks.foldl (fun a k=>ZZ k a) s).Pairwise (·<·)
 |[],_,h=>h
 |k::ks,s,h=>ZkK ks _ (Zde k s h)
theorem ZcL (txs:List HTx) (x:Int):∀(l s:List Int),x∈Zaw txs l s↔(∃id∈l,x∈ZI (ZY txs id).ops)∨x∈s
 |[],s=>by simp[Zaw]
 |id::l,s=>by
  unfold Zaw;rw[ZcL txs x l,Zjq]
  constructor
  ·rintro(⟨i,h1,h2⟩|h|h)
   ·exact Or.inl ⟨i,List.mem_cons_of_mem _ h1,h2⟩
   ·exact Or.inl ⟨id,List.mem_cons_self ..,h⟩
   ·exact Or.inr h
  ·rintro(⟨i,h1,h2⟩|h)
   ·rcases List.mem_cons.1 h1 with rfl|h1
    ·exact Or.inr (Or.inl h2)
    ·exact Or.inl ⟨i,h1,h2⟩
   ·exact Or.inr (Or.inr h)
theorem Zda (txs:List HTx):∀(l s:List Int),s.Pairwise (·<·)→(Zaw txs l s).Pairwise (·<·)
 |[],_,h=>h
 |id::l,s,h=>Zda txs l _ (ZkK _ _ h)
def Za7 (txs:List HTx) (O:List Int):List (Int×Int):=(Zaw txs O []).map fun k=>(k,Zan txs O k)
theorem ZlT (txs:List HTx) (O:List Int) {ks:List Int} (hn:ks.Pairwise (·<·)) (hm:∀k,k∈ks↔(ZN txs O (fun _=>none) k).isSome=true):ks=Zaw txs O []:=by
 refine ZbG (r:=fun a b:Int=>a<b) (fun a=>Int.lt_irrefl a) (fun a b c=>Int.lt_trans) hn (Zda txs O [] List.Pairwise.nil) fun k=> ?_
 rw[hm,ZcL];rcases Zc4 txs k O.length O rfl with ⟨h1,_,h3⟩|⟨h1,h2,h3⟩
 ·rw[h1]
  constructor
  ·intro h;cases h
  ·rintro(⟨id,h4,h5⟩|h)
   ·have:=h3 id h4;rw[ZfM,decide_eq_false_iff_not]at this;exact absurd h5 this
   ·cases h
 ·rw[h1];refine⟨fun _=>Or.inl ⟨_,h2,?_⟩,fun _=>rfl⟩;rw[ZfM]at h3;exact of_decide_eq_true h3
theorem Znx (txs:List HTx) (O:List Int) (k:Int):((ZN txs O (fun _=>none) k).getD ⟨0,0,0⟩).tx=Zan txs O k:=by
 rcases Zc4 txs k O.length O rfl with ⟨h1,h2,_⟩|⟨h1,_,_⟩
 ·rw[h1,h2];rfl
 ·rw[h1];rfl
theorem Zny {h:Hist} {O O':List Int} (hA:AgreeP h O) (hB:AgreeP h O'):Za7 h.txs O=Za7 h.txs O':=by
 have hk:Zaw h.txs O []=Zaw h.txs O' []:=by
  refine ZbG (r:=fun a b:Int=>a<b) (fun a=>Int.lt_irrefl a) (fun a b c=>Int.lt_trans) (Zda _ O [] List.Pairwise.nil) (Zda _ O' [] List.Pairwise.nil) fun k=> ?_
  rw[ZcL,ZcL];simp only[List.not_mem_nil,or_false]
  constructor
  ·rintro⟨id,h1,h2⟩;exact⟨id,(hB.mem _).2 ((hA.mem _).1 h1),h2⟩
  ·rintro⟨id,h1,h2⟩;exact⟨id,(hA.mem _).2 ((hB.mem _).1 h1),h2⟩
 unfold Za7;rw[hk];exact List.map_congr_left fun k _=>by rw[ZoH hA hB k]
end
/- Orders as if one by one:who is done;the versions that were written last,in a map. -/
section
open Go.RowKit
theorem Zdn (txs:List HTx) (i:Int):(ZY txs i).ops=Zae txs i:=by
 unfold ZY Zae;cases Zd txs i<;>rfl
theorem Zf9 (txs:List HTx) (i:Int):(ZY txs i).id=uid txs i:=by
 unfold ZY uid;cases Zd txs i<;>rfl
theorem ZmS (F:Nat→Prop) (w:World) (txs:List HTx) (ords:List HOrd) (A:Option Addr) (c:Nat) (B:Option Addr) (d:Nat) (i:Int) (H:Hist.lies F w ⟨txs,ords,A,c,B,d⟩):
  Calls Tryz.prog 74 #[.agg #[.slice A txs.length c,.slice B ords.length d],.int .i64 i] w fun e w'=>
  ∃(A':Option Addr) (c':Nat),e= .returned (.tuple #[.agg #[.int .i64 (uid txs i),.bool (Zb0 txs i),.slice A' (Zae txs i).length c'],.bool (Zd txs i).isSome])∧Zp (Zae txs i).length∧HOps (fun i=>w.heap.size≤i) w' A' (Zae txs i)∧Upd No w w':=by
 unfold Zb0 Zae uid
 cases hf:Zd txs i with
 |none=>
  refine(Zeq F w txs ords A c B d i H hf).mono ?_;rintro e w' ⟨rfl,hu⟩;exact⟨none,0,rfl,by unfold Zp;simp,fun h=>absurd rfl h,hu⟩
 |some t=>
  refine(Zcq F w txs ords A c B d i H hf).mono ?_;rintro e w' ⟨A',c',rfl,h1,h2,h3⟩;exact⟨A',c',rfl,(H.tx t (Zba hf)).2.2.1,h2,h3⟩
theorem Zl6 {txs:List HTx} {k:Nat} {x:HTx} (hk:k<txs.length) (hx:txs[k]=x):Zc (txs.drop k)=(if x.done then [x.id] else [])++Zc (txs.drop (k+1)):=by
 subst hx;rw[List.drop_eq_getElem_cons hk];unfold Zc;rw[List.filter_cons]
 split<;>rfl
set_option maxRecDepth 100000 in
set_option maxHeartbeats 1000000 in
theorem Zls (F:Nat→Prop) (w:World) (txs:List HTx) (ords:List HOrd) (A:Option Addr) (c:Nat) (B:Option Addr) (d:Nat) (H:Hist.lies F w ⟨txs,ords,A,c,B,d⟩):
  Calls Tryz.prog 34 #[.agg #[.slice A txs.length c,.slice B ords.length d]] w (Zc2 w (Zc txs)):=by
 have hft:=H.few;simp only at hft;obtain⟨wb,hwb⟩:∃wb,w.alloc (.cells #[.slice A txs.length c,.slice B ords.length d] 50)=wb:=⟨_,rfl⟩;have ub:Upd No w wb:=by rw[←hwb];exact(Upd.refl No w).alloc _
 have bH:Blk wb w.heap.size 50 [.slice A txs.length c,.slice B ords.length d]:=by rw[←hwb];exact Blk.new w _ _
 have h0:∀W,Upd No wb W→W.cell? ⟨w.heap.size,0,none⟩=some (.slice A txs.length c):=fun W u=>(bH.upd u id).cell 0
 have hbb:Upd No wb wb:=Upd.refl _ _;have HH:=Qh (H.upd ub (fun _ _=>id));have UB:=Qh ub;have HS0:=Qh (show([]:List Int)++Zc (txs.drop 0)=Zc txs from rfl);obtain⟨D,hD⟩:∃D,Zc txs=D:=⟨_,rfl⟩;rw[hD]at HS0 ⊢;clear bH H ub hD
 go_enter Tryz.func34,Tryz.ntmps34
 go_wp2
 go_loopg [3,9] txs.length (fun gk s i wr=>∃(k:Nat) (A5:Option Addr) (c5:Nat) (xs:List Int),k+gk=txs.length∧i= .int .i64 (k:Int)∧s= .slice A5 xs.length c5∧Hid (xs++Zc (txs.drop k)=D)∧xs.length≤k∧
  Hid (wr.ownsRow wb.heap.size 3 1 (.slice A5 xs.length c5) xs.length (xs.map (Value.int .i64)))∧Hid (Upd No wb wr))
 case atStart=>exact⟨0,none,0,[],by omega,rfl,rfl,HS0,Nat.zero_le _,Qh (World.ownsRow_nil _ _ _ _),Qh hbb⟩
 case round=>
  clear HS0 hbb h0;obtain⟨k,A5,c5,xs,hgk,rfl,rfl,hs,hxl,hown,hu⟩:=hrel
  by_cases hlt:k<txs.length
  ·obtain⟨ad,rfl,q0,q1,q2⟩:=(HH.out.upd hu.out (fun _ _=>id)).tx_at hlt;simp only at q0 q1 q2;obtain⟨x,hx⟩:∃x,txs[k]=x:=⟨_,rfl⟩;rw[hx]at q0 q1 q2;have hst:=hs.out;rw[Zl6 hlt hx]at hst;obtain⟨xi,xd,xo,xA,xc⟩:=x;simp only at q0 q1 q2 hst;have i1:(0:Int)≤(k:Int):=Qn _;have i2:(k:Int)<(txs.length:Int):=by omega
   have jw:IntKind.i64.wrap ((k:Int)+1)=(k:Int)+1:=IntWalk.i64_in _ (by omega);obtain⟨wz,hwz⟩:∃wz,wr.alloc (.cells #[.int .i64 xi,.bool xd,.slice xA xo.length xc] 85)=wz:=⟨_,rfl⟩;have uz:Upd No wr wz:=by rw[←hwz];exact(Upd.refl No wr).alloc _
   have bo:Blk wz wr.heap.size 85 [.int .i64 xi,.bool xd,.slice xA xo.length xc]:=by rw[←hwz];exact Blk.new wr _ _
   have g0:=bo.cell 0;have g1:=bo.cell 1;have g2:=bo.cell 2;simp only[Qz,Qs]at g0 g1 g2;have HUZ:=Qh (hu.out.trans uz);have hownz:=Zb hown.out uz (fun _ _=>id);clear hx bo uz hs
   cases xd
   ·have HS:=Qh (show xs++Zc (txs.drop (k+1))=D by simpa using hst);have HO:=Qh hownz;clear hst hownz;go_wp2
    go_roundg (gk-1)
    case measure=>omega
    case rel=>exact⟨k+1,A5,c5,xs,by omega,by go_num,rfl,HS,by omega,HO,HUZ⟩
   ·have HS:=Qh (show(xs++[xi])++Zc (txs.drop (k+1))=D by simpa using hst);have hsz:=HUZ.out.size;have hub:=UB.out.size;clear hst
    go_wp2_with (at_builtin;refine ZbT rfl rfl Za1 (v:= .slice A5 xs.length c5) (n:=xs.length) (xs:=xs.map (Value.int .i64)) (cells:=[.int .i64 xi]) (by rfl) rfl hownz rfl rfl (by omega) (by omega) (by omega) ?_;intro g5 c7 w5 hown5 hu5 hg5 hlt5)
    go_roundg (gk-1)
    case measure=>omega
    case rel=>exact⟨k+1,some ⟨g5,0,none⟩,c7,xs++[xi],by omega,by go_num,by simp,HS,by simp;omega,Qh (by simpa using hown5),Qh (HUZ.out.then_ hu5 fun i e=>Or.inr (hownz.lt i e).1)⟩
  ·obtain rfl:k=txs.length:=by omega
   have hx:xs=D:=by have:=hs.out;rw[List.drop_length]at this;simpa[Zc]using this
   subst hx;go_wp2
   go_ret
   exact⟨A5,c5,rfl,Z6 hown.out UB.out.size,UB.out.trans hu.out⟩
/-! the map -/
theorem Zpl (w:World):(zeroValue 36).run Tryz.prog w= .ok (ZaE ⟨0,0,0⟩) w:=by kernel_rfl
theorem ZlE {m:List (Int×Value)} {k:Int} {v:Value} (h:(m.map (·.1)).Nodup):((Zk m k v).map (·.1)).Nodup:=by
 rw[Ze2]
 show(Zaa _ [k]).Nodup
 unfold Zaa;unfold Zaa
 split
 ·exact h
 ·rename_i hn
  rw[List.nodup_append];exact⟨h,by simp,fun a ha b hb e=>hn (by rw[List.mem_singleton.1 hb]at e;exact e▸ha)⟩
theorem Zm6 {m:List (Int×Value)} {k:Int}:(Zr m k).isSome=true↔k∈m.map (·.1):=by
 unfold Zr
 have key:∀(m:List (Int×Value)) (i:Nat),(look k m i).isSome=true↔k∈m.map (·.1):=by
  intro m
  induction m with
  |nil=>intro i;simp[look]
  |cons p m ih=>
   intro i;unfold look
   by_cases e:k=p.1
   ·simp[e]
   ·rw[if_neg e,ih (i+1)];simp[e]
 rw[Option.isSome_map,key]
structure WorldM (w:World) (b:Nat) (m:List (Int×Value)) (f:Int→Option Ver):Prop where
 is:MapE w b (fun n:Int=>Value.int .i64 n) m
 nd:(m.map (·.1)).Nodup
 get:∀k,Zr m k=(f k).map ZaE
namespace WorldM
variable {w w':World} {b:Nat} {m:List (Int×Value)} {f g:Int→Option Ver} {S:Nat→Prop}
theorem upd (h:WorldM w b m f) (u:Upd S w w') (hn:¬S b):WorldM w' b m f:=⟨h.is.upd u hn,h.nd,h.get⟩
theorem new (w:World):WorldM (w.alloc (.map #[] 0)) w.heap.size [] (fun _=>none):=⟨MapE.new w _,by simp,fun _=>rfl⟩
theorem look (h:WorldM w b m f) (k:Int):(Instr.lookup 124 (.map (some b)) (.int .i64 k) true).run Tryz.prog w= .ok (.tuple #[ZaE ((f k).getD ⟨0,0,0⟩),.bool (f k).isSome]) w:=by
 have:=ZfX Zz Tryz.underlying124 Zpl h.is.is k;rw[h.get]at this;rw[this]
 cases f k<;>rfl
theorem look1 (h:WorldM w b m f) (k:Int):(Instr.lookup 124 (.map (some b)) (.int .i64 k) false).run Tryz.prog w= .ok (ZaE ((f k).getD ⟨0,0,0⟩)) w:=by
 have:=Zf Zz Tryz.underlying124 Zpl h.is.is k;rw[h.get]at this;rw[this]
 cases f k<;>rfl
theorem put (h:WorldM w b m f) (k:Int) (v:Ver):∃w',(Instr.mapUpdate 124 (.map (some b)) (.int .i64 k) (ZaE v)).run Tryz.prog w= .ok () w'∧WorldM w' b (Zk m k (ZaE v)) (fun k'=>if k'=k then some v else f k')∧Upd (One b) w w':=by
 obtain⟨w',h1,h2,h3⟩:=Zbc Zz Tryz.underlying124 h.is k (ZaE v);refine⟨w',h1,⟨h2,ZlE h.nd,fun k'=> ?_⟩,h3⟩;rw[Zad]
 split
 ·rfl
 ·exact h.get k'
theorem congr (h:WorldM w b m f) (e:∀k,f k=g k):WorldM w b m g:=⟨h.is,h.nd,fun k=>by rw[h.get,e]⟩
theorem lt (h:WorldM w b m f):b<w.heap.size:=h.is.lt
theorem keys (h:WorldM w b m f) (k:Int):k∈m.map (·.1)↔(f k).isSome=true:=by rw[←Zm6,h.get,Option.isSome_map]
end WorldM
theorem ZrY {W:World} {b:Nat} {ty:TypeId} {c0 c1 c2:Value} (h:Blk W b ty [c0,c1,c2]) (v0 v1 v2:Value):
  Blk (((W.setCell ⟨b,0,none⟩ v0).setCell ⟨b,1,none⟩ v1).setCell ⟨b,2,none⟩ v2) b ty [v0,v1,v2]∧Upd (One b) W (((W.setCell ⟨b,0,none⟩ v0).setCell ⟨b,1,none⟩ v1).setCell ⟨b,2,none⟩ v2):=by
 refine⟨?_,(((Upd.refl _ _).setOne 0 _).setOne 1 _).setOne 2 _⟩;have:=((h.set_ 0 v0).set_ 1 v1).set_ 2 v2
 simpa only[List.set_cons_zero,List.set_cons_succ]using this
def ZbL (f:Int→Option Ver) (id:Int) (o:HOp):Bool:= !o.read||(o.tx==id||Zo o==(f o.key).getD ⟨0,o.key,0⟩)
theorem ZmB (f:Int→Option Ver) (t:HTx):ZfA f t=t.ops.all (ZbL f t.id):=rfl
set_option maxRecDepth 100000 in
set_option maxHeartbeats 4000000 in
theorem ZrS (F:Nat→Prop) (w:World) (b:Nat) (m:List (Int×Value)) (f:Int→Option Ver) (h:WorldM w b m f) (i0:Int) (dn:Bool) (A:Option Addr) (c:Nat) (l:List HOp) (hop:HOps F w A l) (hl:Zp l.length) {v:Bool} (hv:l.all (ZbL f i0)=v):
  Calls Tryz.prog 75 #[.map (some b),.agg #[.int .i64 i0,.bool dn,.slice A l.length c]] w fun e w'=>e= .returned (.bool v)∧Upd No w w':=by
 unfold Zp at hl;obtain⟨wb,hwb⟩:∃wb,w.alloc (.cells #[.int .i64 i0,.bool dn,.slice A l.length c] 85)=wb:=⟨_,rfl⟩;have ub:Upd No w wb:=by rw[←hwb];exact(Upd.refl No w).alloc _
 have bT:Blk wb w.heap.size 85 [.int .i64 i0,.bool dn,.slice A l.length c]:=by rw[←hwb];exact Blk.new w _ _
 have h0:∀W,Upd No wb W→W.cell? ⟨w.heap.size,0,none⟩=some (.int .i64 i0):=fun W u=>(bT.upd u id).cell 0
 have h2:∀W,Upd No wb W→W.cell? ⟨w.heap.size,2,none⟩=some (.slice A l.length c):=fun W u=>(bT.upd u id).cell 2
 have hbb:Upd No wb wb:=Upd.refl _ _;have HM:=Qh (h.upd ub id);have HOP:=Qh (HOps.upd hop ub (fun _ _=>id));have UB:=Qh ub;have HV:=Qh (show(l.drop 0).all (ZbL f i0)=v from hv);clear bT ub h hop hv
 go_enter Tryz.func75,Tryz.ntmps75
 go_wp2
 go_loopg [12] l.length (fun gk i wr=>∃(k:Nat),k+gk=l.length∧i= .int .i64 (k:Int)∧Hid ((l.drop k).all (ZbL f i0)=v)∧Upd No wb wr)
 case atStart=>exact⟨0,by omega,rfl,HV,hbb⟩
 case round=>
  clear HV hbb;obtain⟨k,hgk,rfl,hs,hu⟩:=hrel
  by_cases hlt:k<l.length
  ·obtain⟨ad,rfl,q0,q1,q2,q3⟩:=(HOps.upd HOP.out hu (fun _ _=>id)).at_ hlt;obtain⟨x,hx⟩:∃x,l[k]=x:=⟨_,rfl⟩;rw[hx]at q0 q1 q2 q3;have hst:=hs.out;rw[show l.drop k=x::l.drop (k+1) by rw[←hx];exact List.drop_eq_getElem_cons hlt,List.all_cons]at hst;obtain⟨r,ky,tx,nt⟩:=x;simp only at q0 q1 q2 q3;have i1:(0:Int)≤(k:Int):=Qn _;have i2:(k:Int)<(l.length:Int):=by omega
   have jw:IntKind.i64.wrap ((k:Int)+1)=(k:Int)+1:=IntWalk.i64_in _ (by omega);obtain⟨wz,hwz⟩:∃wz,wr.alloc (.cells #[.bool r,.int .i64 ky,.int .i64 tx,.int .i64 nt] 82)=wz:=⟨_,rfl⟩;have uz:Upd No wr wz:=by rw[←hwz];exact(Upd.refl No wr).alloc _
   have bo:Blk wz wr.heap.size 82 [.bool r,.int .i64 ky,.int .i64 tx,.int .i64 nt]:=by rw[←hwz];exact Blk.new wr _ _
   have hszz:wz.heap.size=wr.heap.size+1:=by rw[←hwz];simp
   have g0:∀W,Upd No wz W→W.cell? ⟨wr.heap.size,0,none⟩=some (.bool r):=fun W u=>(bo.upd u id).cell 0
   have g1:∀W,Upd No wz W→W.cell? ⟨wr.heap.size,1,none⟩=some (.int .i64 ky):=fun W u=>(bo.upd u id).cell 1
   have g2:∀W,Upd No wz W→W.cell? ⟨wr.heap.size,2,none⟩=some (.int .i64 tx):=fun W u=>(bo.upd u id).cell 2
   have g3:∀W,Upd No wz W→W.cell? ⟨wr.heap.size,3,none⟩=some (.int .i64 nt):=fun W u=>(bo.upd u id).cell 3
   have hz:Upd No wb wz:=hu.trans uz;have hzz:Upd No wz wz:=Upd.refl _ _;have HZ:=Qh hz;have BO:=Qh bo;have HSZ:=Qh hszz;clear hx bo uz hs hszz
   cases r
   ·have HS:=Qh (show(l.drop (k+1)).all (ZbL f i0)=v by rw[show ZbL f i0 ⟨false,ky,tx,nt⟩=true from rfl,Bool.true_and]at hst;exact hst);clear hst;go_wp2
    go_roundg (gk-1)
    case measure=>omega
    case rel=>exact⟨k+1,by omega,by go_num,HS,HZ.out⟩
   ·by_cases he:tx=i0
    ·have heb:(tx==i0)=true:=by simpa using he
     have HS:=Qh (show(l.drop (k+1)).all (ZbL f i0)=v by rw[show ZbL f i0 ⟨true,ky,tx,nt⟩=true by unfold ZbL;simp[he],Bool.true_and]at hst;exact hst);clear hst he;go_wp2
     go_roundg (gk-1)
     case measure=>omega
     case rel=>exact⟨k+1,by omega,by go_num,HS,HZ.out⟩
    ·have heb:(tx==i0)=false:=by simpa using he
     obtain⟨⟨va,vb,vc⟩,hvv⟩:∃z,(f ky).getD ⟨0,ky,0⟩=z:=⟨_,rfl⟩
     have hso:ZbL f i0 ⟨true,ky,tx,nt⟩= !((⟨tx,ky,nt⟩:Ver) != ⟨va,vb,vc⟩):=by
      unfold ZbL;rw[show Zo ⟨true,ky,tx,nt⟩=⟨tx,ky,nt⟩ from rfl,hvv,heb];simp[bne]
     rw[hso]at hst;have HOF:=Qh (fun W=>Zre W ky tx nt);obtain⟨nb,hnb⟩:∃nb,((⟨tx,ky,nt⟩:Ver) != ⟨va,vb,vc⟩)=nb:=⟨_,rfl⟩;have hne:=fun W=>ZpK W ⟨tx,ky,nt⟩ ⟨va,vb,vc⟩
     unfold ZaE at hne;simp only[hnb]at hne;rw[hnb]at hst;have HST:=Qh hst;have HNE:=Qh hne;have HVV:=Qh hvv;have e1:=(HM.out.upd hz id).look ky;obtain⟨⟨ua,ub,uc⟩,huu⟩:∃z,(f ky).getD ⟨0,0,0⟩=z:=⟨_,rfl⟩;obtain⟨is,his⟩:∃b,(f ky).isSome=b:=⟨_,rfl⟩;rw[huu,his]at e1;unfold ZaE at e1;simp only at e1
     have HCS:=Qh (show(is=true→ua=va∧ub=vb∧uc=vc)∧(is=false→ua=0∧ub=0∧uc=0∧va=0∧vb=ky∧vc=0) by
      cases hfk:f ky with
      |none=>
       rw[hfk]at hvv huu his;simp only[Option.getD_none,Option.isSome_none,Ver.mk.injEq]at hvv huu his;obtain⟨a1,a2,a3⟩:=hvv;obtain⟨a4,a5,a6⟩:=huu;exact⟨fun e=>(by rw[←his]at e;cases e),fun _=>⟨a4.symm,a5.symm,a6.symm,a1.symm,a2.symm,a3.symm⟩⟩
      |some ve=>
       rw[hfk]at hvv huu his;simp only[Option.getD_some,Option.isSome_some]at hvv huu his;subst hvv;simp only[Ver.mk.injEq]at huu;exact⟨fun _=>⟨huu.1.symm,huu.2.1.symm,huu.2.2.symm⟩,fun e=>(by rw[←his]at e;cases e)⟩)
     clear hst hso he hnb hne hvv huu his
     go_upto_if 34 with fail
     go_cut [8] (fun s wc=>∃bs:Bool,s= .bool bs∧Hid (Blk wc wz.heap.size 36 [.int .i64 va,.int .i64 vb,.int .i64 vc])∧Hid (Upd No wz wc))
     case first=>
      cases is
      ·obtain⟨rfl,rfl,rfl,rfl,rfl,rfl⟩:=HCS.out.2 rfl;obtain⟨wv,hwv⟩:∃wv,wz.alloc (.cells #[.int .i64 0,.int .i64 0,.int .i64 0] 36)=wv:=⟨_,rfl⟩;have uv:Upd No wz wv:=by rw[←hwv];exact(Upd.refl No wz).alloc _
       have bv:Blk wv wz.heap.size 36 [.int .i64 0,.int .i64 0,.int .i64 0]:=by rw[←hwv];exact Blk.new wz _ _
       have y0:=bv.cell 0;have y1:=bv.cell 1;have y2:=bv.cell 2;have k0:=bv.free 0;have k1:=bv.free 1;have k2:=bv.free 2;have gg1:=g1 wv uv;simp only[Qz,Qs]at y0 y1 y2;have BV:=Qh bv;have UV:=Qh uv;clear bv uv HCS;go_wp2
       go_meet
       obtain⟨b3,u3⟩:=ZrY BV.out (.int .i64 0) (.int .i64 vb) (.int .i64 0);exact⟨false,rfl,Qh b3,Qh (UV.out.then_ u3 (fun i e=>Or.inr (by unfold One at e;omega)))⟩
      ·obtain⟨rfl,rfl,rfl⟩:=HCS.out.1 rfl;clear HCS;go_wp2
       go_meet
       exact⟨true,rfl,Qh (Blk.new wz _ _),Qh ((Upd.refl No wz).alloc _)⟩
     case rest=>
      obtain⟨bs,rfl,HBV,HUV⟩:=hcut;obtain⟨w5,hw5⟩:∃w5,w5=wc:=⟨_,rfl⟩;subst hw5;have p0:∀W,Upd No w5 W→W.cell? ⟨wz.heap.size,0,none⟩=some (.int .i64 va):=fun W u=>(HBV.out.upd u id).cell 0
      have p1:∀W,Upd No w5 W→W.cell? ⟨wz.heap.size,1,none⟩=some (.int .i64 vb):=fun W u=>(HBV.out.upd u id).cell 1
      have p2:∀W,Upd No w5 W→W.cell? ⟨wz.heap.size,2,none⟩=some (.int .i64 vc):=fun W u=>(HBV.out.upd u id).cell 2
      have t0:∀W,Upd No w5 W→W.cell? ⟨wr.heap.size,0,none⟩=some (.bool true):=fun W u=>g0 W (HUV.out.trans u)
      have t1:∀W,Upd No w5 W→W.cell? ⟨wr.heap.size,1,none⟩=some (.int .i64 ky):=fun W u=>g1 W (HUV.out.trans u)
      have t2:∀W,Upd No w5 W→W.cell? ⟨wr.heap.size,2,none⟩=some (.int .i64 tx):=fun W u=>g2 W (HUV.out.trans u)
      have t3:∀W,Upd No w5 W→W.cell? ⟨wr.heap.size,3,none⟩=some (.int .i64 nt):=fun W u=>g3 W (HUV.out.trans u)
      have h55:Upd No w5 w5:=Upd.refl _ _;have hne:=HNE.out;clear g0 g1 g2 g3 hzz e1
      cases nb
      ·have HS:=Qh (show(l.drop (k+1)).all (ZbL f i0)=v by have:=HST.out;rwa [Bool.not_false,Bool.true_and]at this);go_wp2;refine wp_region_noPanic ?_;refine wp_region_held_drew (S:=(fun W'=>Upd No w5 W')) (by kernel_rfl) ?_ (fun hHeld=> ?_)
       ·(first|exact h55.drew|exact hHeld.trans hu6)
       refine wpK 0 rfl ?_;refine wpK 2 rfl ?_;refine wpR [1] ?_;refine wpC rfl (fun K hK=> ?_) AllReadyH.nil;go_simp
       (first
  |(go_at_call 134;refine(HOF.out _).mono ?_;rintro e w6 ⟨rfl,hu6⟩))
       try (go_wp2_with fail)
       refine hK.out _ _ ?_ (fun hHeld=> ?_)
       ·(first|exact h55.drew|exact hHeld.trans hu6)
       clear hK K
       try simp only[Act.put,sT,sS,sZ]
       refine wpK 3 rfl ?_;refine wpD (NoPanic.normal ?_);have HL:=Qh ((HZ.out.trans HUV.out).trans hHeld);clear hHeld;go_wp2
       go_roundg (gk-1)
       case measure=>omega
       case rel=>exact⟨k+1,by omega,by go_num,HS,HL.out⟩
      ·have HS:=Qh (show v=false by have:=HST.out;rw[Bool.not_true,Bool.false_and]at this;exact this.symm);go_wp2;refine wp_region_noPanic ?_;refine wp_region_held_drew (S:=(fun W'=>Upd No w5 W')) (by kernel_rfl) ?_ (fun hHeld=> ?_)
       ·(first|exact h55.drew|exact hHeld.trans hu6)
       refine wpK 0 rfl ?_;refine wpK 2 rfl ?_;refine wpR [1] ?_;refine wpC rfl (fun K hK=> ?_) AllReadyH.nil;go_simp
       (first
  |(go_at_call 134;refine(HOF.out _).mono ?_;rintro e w6 ⟨rfl,hu6⟩))
       try (go_wp2_with fail)
       refine hK.out _ _ ?_ (fun hHeld=> ?_)
       ·(first|exact h55.drew|exact hHeld.trans hu6)
       clear hK K
       try simp only[Act.put,sT,sS,sZ]
       refine wpK 3 rfl ?_;refine wpD (NoPanic.normal ?_);have HL:=Qh ((HZ.out.trans HUV.out).trans hHeld);clear hHeld;go_wp2
       go_ret
       exact⟨by rw[HS.out];rfl,UB.out.trans HL.out⟩
  ·obtain rfl:k=l.length:=by omega
   have hvt:v=true:=by have:=hs.out;rw[List.drop_length]at this;exact this.symm
   subst hvt;go_wp2
   go_ret
   exact⟨rfl,UB.out.trans hu⟩
def Zge (id:Int) (l:List HOp) (f:Int→Option Ver) (k:Int):Option Ver:=if k∈ZI l then some ⟨id,k,(Zg l k:Int)⟩ else f k
theorem Zgd (t:HTx) (f:Int→Option Ver):Zhw t f=Zge t.id t.ops f:=rfl
theorem Zkl {P:Program} {w w':World} {ops:Array Oper} {o:Oper} {ac:Act} {Kk:Act→World→Prop} {Q:Exit→Act→World→Prop} {E:Prop} {t:TypeId} (hgd:o.guard=none) {x y v:Operand}
  (ho:o.op= .mapUpdate t x y v) {mv kv vv:Value} (hx:ac.eval x=mv) (hy:ac.eval y=kv) (hv:ac.eval v=vv) (hr:(Instr.mapUpdate t mv kv vv).run P w= .ok () w')
  (hk:Kk (ac.put o.dst undef) w'):if Region.wanted o (yielded ops ac.tmps)=true then Oper.wp P o ac w Kk Q else E:=by
 rw[if_pos (by simp[Region.wanted,hgd])];unfold Oper.wp;simp[execOp,ho,hx,hy,hv,hr,Result.andThen];exact hk
set_option maxRecDepth 100000 in
set_option maxHeartbeats 4000000 in
theorem ZqO (F:Nat→Prop) (w:World) (b:Nat) (m:List (Int×Value)) (f:Int→Option Ver) (h:WorldM w b m f) (i0:Int) (dn:Bool) (A:Option Addr) (c:Nat) (l:List HOp) (hop:HOps F w A l) (hl:Zp l.length) (hF:∀i,F i→i≠b):
  Calls Tryz.prog 76 #[.map (some b),.agg #[.int .i64 i0,.bool dn,.slice A l.length c]] w fun e w'=>e= .returned (.tuple #[])∧(∃m',WorldM w' b m' (Zge i0 l f))∧Upd (One b) w w':=by
 obtain⟨wb,hwb⟩:∃wb,w.alloc (.cells #[.int .i64 i0,.bool dn,.slice A l.length c] 85)=wb:=⟨_,rfl⟩;have ub:Upd No w wb:=by rw[←hwb];exact(Upd.refl No w).alloc _
 have bT:Blk wb w.heap.size 85 [.int .i64 i0,.bool dn,.slice A l.length c]:=by rw[←hwb];exact Blk.new w _ _
 have hblt:=h.lt;have h0:=bT.cell 0;have h1:=bT.cell 1;have h2:=bT.cell 2;simp only[Qz,Qs]at h0 h1 h2;have HM:=Qh (h.upd ub id);have HOP:=Qh (HOps.upd hop ub (fun _ _=>id));have BT:=Qh bT;have UB:=Qh ub;have HBL:=Qh hblt;have HF:=Qh hF;have CK:=Qh (ZlO F wb i0 dn A c l HOP.out hl);have HL:=Qh hl;obtain⟨ks,hks⟩:∃ks,ZI l=ks:=⟨_,rfl⟩;have hkl:ks.length≤l.length:=by rw[←hks];exact Nat.le_trans (Zbb _) (ZdN _ _)
 have HKL:=Qh (show ks.length≤4398046511103 from Nat.le_trans hkl hl);have HPO:=Qh (show∀k,(if k∈ks then some (⟨i0,k,(Zg l k:Int)⟩:Ver) else f k)=Zge i0 l f k from fun k=>by unfold Zge;rw[hks]);rw[hks]at CK;clear bT ub h hop hl hblt hF hks hkl
 go_enter Tryz.func76,Tryz.ntmps76
 go_wp2_with fail
 refine(CK.out).mono ?_;rintro e w1 ⟨A1,c1,rfl,ho1,hu1⟩;have HI1:=Qh (show Ints (fun i=>wb.heap.size≤i) w1 A1 ks from Ints.of_owned ho1);have HM1:=Qh (HM.out.upd hu1 id);have HOP1:=Qh (HOps.upd HOP.out hu1 (fun _ _=>id));have BT1:=Qh (BT.out.upd hu1 id);have HU1:=Qh (UB.out.trans hu1);clear ho1 hu1 CK h0 h1 h2;go_wp2
 go_loopg [9] ks.length (fun gk i wr=>∃(j:Nat) (m':List (Int×Value)),j+gk=ks.length∧i= .int .i64 (j:Int)∧Hid (WorldM wr b m' (fun k=>if k∈ks.take j then some ⟨i0,k,(Zg l k:Int)⟩ else f k))∧Hid (Upd (One b) w1 wr))
 case atStart=>exact⟨0,m,by omega,rfl,Qh (HM1.out.congr (fun k=>by simp)),Qh (Upd.refl _ _)⟩
 case round=>
  clear HM1;obtain⟨j,m',hgj,rfl,hW,hu⟩:=hrel;have hkl:=HKL.out
  by_cases hlt:j<ks.length
  ·obtain⟨ad,rfl,_,_,q0⟩:=(HI1.out.upd hu.out (fun i (hi:wb.heap.size≤i) (e:i=b)=>by have:=HBL.out;have:=UB.out.size;omega)).at_ hlt;obtain⟨key,hkey⟩:∃key,ks[j]=key:=⟨_,rfl⟩;rw[hkey]at q0
   have HNX:=Qh (show∀k,(if k=key then some (⟨i0,key,(Zg l key:Int)⟩:Ver) else if k∈ks.take j then some ⟨i0,k,(Zg l k:Int)⟩ else f k)=if k∈ks.take (j+1) then some ⟨i0,k,(Zg l k:Int)⟩ else f k from fun k=>by
    rw[List.take_succ_eq_append_getElem hlt,hkey]
    by_cases e:k=key
    ·subst e;simp
    ·simp[e])
   have i1:(0:Int)≤(j:Int):=Qn _;have i2:(j:Int)<(ks.length:Int):=by omega
   have jw:IntKind.i64.wrap ((j:Int)+1)=(j:Int)+1:=IntWalk.i64_in _ (by omega);have hnb:w.heap.size≠b:=by have:=HBL.out;omega
   have t0:∀W,Upd (One b) wr W→W.cell? ⟨w.heap.size,0,none⟩=some (.int .i64 i0):=fun W u=>(BT1.out.upd (hu.out.trans u) hnb).cell 0
   have t1:∀W,Upd (One b) wr W→W.cell? ⟨w.heap.size,1,none⟩=some (.bool dn):=fun W u=>(BT1.out.upd (hu.out.trans u) hnb).cell 1
   have t2:∀W,Upd (One b) wr W→W.cell? ⟨w.heap.size,2,none⟩=some (.slice A l.length c):=fun W u=>(BT1.out.upd (hu.out.trans u) hnb).cell 2
   have CW:=Qh (fun W (u:Upd (One b) wr W)=>ZfG F W i0 dn A c l key (HOps.upd HOP1.out (hu.out.trans u) (fun i hi (e:i=b)=>HF.out i hi e)) HL.out);have hrr:Upd (One b) wr wr:=Upd.refl _ _;clear hkey;go_wp2;refine wp_region_noPanic ?_;refine wp_region_held_drew (S:=(fun W'=>Upd (One b) wr W')) (by kernel_rfl) ?_ (fun hHeld=> ?_)
   ·(first|exact hrr.drew|(with_reducible exact hHeld)|(with_reducible exact hq5)|(with_reducible exact hq6))
   refine wpK 0 rfl ?_;refine wpK 1 rfl ?_;refine wpK 2 rfl ?_;refine wpK 3 rfl ?_;refine wpK 4 rfl ?_;refine wpK 5 rfl ?_;refine wpK 6 rfl ?_;refine wpR [7] ?_;refine wpC rfl (fun K hK=> ?_) AllReadyH.nil;go_simp
   (first
  |(go_at_call 135;refine(CW.out _ hHeld).mono ?_;rintro e w5 ⟨rfl,hu5⟩;have HW5:=Qh (hW.out.upd (show Upd No wr w5 from Upd.of_drew hu5) id);have hq5:Upd (One b) wr w5:=hHeld.trans (hu5.mono (fun _ _ e=>e.elim))))
   try (go_wp2_with fail)
   refine hK.out _ _ ?_ (fun hHeld=> ?_)
   ·(first|exact hrr.drew|(with_reducible exact hHeld)|(with_reducible exact hq5)|(with_reducible exact hq6))
   clear hK K
   try simp only[Act.put,sT,sS,sZ]
   refine wpK 8 rfl ?_;refine wpR [9] ?_;refine wpC rfl (fun K hK=> ?_) AllReadyH.nil
   (first
  |(obtain⟨w6,e6,h6,u6⟩:=HW5.out.put key ⟨i0,key,(Zg l key:Int)⟩;refine Zkl (by rfl) (by rfl) (by rfl) (by rfl) (by rfl) e6 ?_;have HW6:=Qh (h6.congr HNX.out);have hq6:Upd (One b) wr w6:=hHeld.trans u6))
   refine hK.out _ _ ?_ (fun hHeld=> ?_)
   ·(first|exact hrr.drew|(with_reducible exact hHeld)|(with_reducible exact hq5)|(with_reducible exact hq6))
   clear hK K
   try simp only[Act.put,sT,sS,sZ]
   refine wpD (NoPanic.normal ?_);have HL6:=Qh (hu.out.trans hHeld);clear hHeld;go_wp2
   go_roundg (gk-1)
   case measure=>omega
   case rel=>exact⟨j+1,_,by omega,by go_num,HW6,HL6⟩
  ·obtain rfl:j=ks.length:=by omega
   have HFN:=Qh (hW.out.congr (g:=Zge i0 l f) (fun k=>by rw[List.take_length];exact HPO.out k));go_wp2;exact bodyPost_end (results_none rfl _ _ _) rfl ⟨rfl,⟨_,HFN.out⟩,(HU1.out.mono (fun _ _ e=>e.elim)).trans hu.out⟩
end
end Go.Proofs.YtonblekdfinpkaaGreat
