/- Edges of a history, in plain words: the lists. -/
import Derived.Test.YtklmahmfmbppkaaGreatVbv
namespace Go.Proofs.YtklmahmfmbppkaaGreat
set_option linter.unusedVariables false
set_option linter.unusedSimpArgs false
section
open Go.RowKit
theorem Zhz {s:List Edge} (h:s.Pairwise fun a b=>ltE a b=true):∀k,k≤s.length→ddF s k=s.take k
 |0,_=>by simp[ddF]
 |k+1,hk=>by
  have ih:=Zhz h k (by omega);rw[Zh5 (by omega),ih,List.take_succ_eq_append_getElem (by omega)]
  cases k with
  |zero=>exact Or.inl rfl
  |succ k=>
   right
   rw[Nat.add_sub_cancel,Qg (by omega),Qg (by omega)];intro e;have:=List.pairwise_iff_getElem.1 h k (k+1) (by omega) (by omega) (by omega);rw[Option.some.inj e,ZfM]at this
   cases this
theorem Zjy {s:List Edge} (h:s.Pairwise fun a b=>ltE a b=true):ZaZ s=s:=by
 unfold ZaZ;refine List.Perm.eq_of_pairwise (le:=fun a b=>(!ltOf ZaE b a)=true) (fun a b _ _ h1 h2=> ?_) (List.pairwise_mergeSort Zfc Zfd s) (h.imp fun {a b} hab=> ?_) (List.mergeSort_perm _ _)
 ·simp only[ZaG,Bool.not_eq_true']at h1 h2;exact ZhY h2 h1
 ·simp only[ZaG,Bool.not_eq_true']
  cases hba:ltE b a with
  |false=>rfl
  |true=>have:=ZiE hab hba;rw[ZfM]at this;cases this
theorem ZmH {s:List Edge} (h:s.Pairwise fun a b=>ltE a b=true):ddE s=s:=by
 unfold ddE;rw[Zjy h,Zhz h _ (Nat.le_refl _),List.take_length]
theorem Zjw {s:List Edge} (h:s.Pairwise fun a b=>ltE a b=true):s.Nodup:=h.imp fun {a b} hab e=>by subst e;rw[ZfM]at hab;cases hab
theorem ZtD {g:Edge→Nat} {l:List Hvy} (h1:(l.map (·.e)).Pairwise fun a b=>ltE a b=true) (h2:∀e,e∈l.map (·.e)↔g e≠0) (h3:∀x∈l,x.n=(g x.e:Int)):ZmV g l:=fun mc hm=>by
 have hp:(mc.map (·.1)).Perm (l.map (·.e)):=(List.perm_ext_iff_of_nodup hm.nd (Zjw h1)).2 fun a=>by rw[hm.mem,h2]
 rw[Zky hp,ZmH h1];unfold hvL;rw[List.map_map]
 conv=>rhs;rw[←List.map_id l]
 refine List.map_congr_left fun x hx=> ?_
 have:=h3 x hx;obtain⟨e,n⟩:=x;simp only at this;simp[this]
theorem ZtA {g:Edge→Nat} {l:List Edge} (h:∀e,g e≠0→e∈l) (hl:l.length≤1000000):ZpU g:=fun mc hm=>by
 have h1:=hm.nd.length_le_of_subset (l₂:=l) fun a ha=>h a ((hm.mem a).1 ha)
 rw[List.length_map]at h1;omega
section
variable {h:Hist}
theorem mem_hrB {a kind key:Int} {bs:List HTx} {x:Hvy}:x∈hrB h a kind key bs↔∃b∈bs,0<ZB h ⟨a,b.id,kind,key⟩∧x=⟨⟨a,b.id,kind,key⟩,(ZB h ⟨a,b.id,kind,key⟩:Int)⟩:=by
 unfold hrB;rw[List.mem_flatMap]
 constructor
 ·rintro⟨b,hb,hx⟩
  split at hx
  ·rename_i hp;exact⟨b,hb,hp,by simpa using hx⟩
  ·cases hx
 ·rintro⟨b,hb,hp,rfl⟩;exact⟨b,hb,by rw[if_pos hp];simp⟩
theorem mem_hrK {a kind:Int} {ks:List Int} {x:Hvy}:x∈hrK h a kind ks↔∃key∈ks,∃b∈h.txs,0<ZB h ⟨a,b.id,kind,key⟩∧x=⟨⟨a,b.id,kind,key⟩,(ZB h ⟨a,b.id,kind,key⟩:Int)⟩:=by
 unfold hrK;rw[List.mem_flatMap];simp only[mem_hrB]
theorem ZpI (a:Int):hrN h a 3=hrK h a 1 (Zbv h.txs)++hrK h a 2 (Zbv h.txs)++hrK h a 3 (Zbv h.txs):=rfl
theorem mem_hrA {ts:List HTx} {x:Hvy}:x∈hrA h ts↔∃t∈ts,∃kind,(kind=1∨kind=2∨kind=3)∧x∈hrK h t.id kind (Zbv h.txs):=by
 unfold hrA;rw[List.mem_flatMap];simp only[ZpI,List.mem_append]
 constructor
 ·rintro⟨t,ht,(h1|h1)|h1⟩
  ·exact⟨t,ht,1,Or.inl rfl,h1⟩
  ·exact⟨t,ht,2,Or.inr (Or.inl rfl),h1⟩
  ·exact⟨t,ht,3,Or.inr (Or.inr rfl),h1⟩
 ·rintro⟨t,ht,kind,rfl|rfl|rfl,h1⟩
  ·exact⟨t,ht,Or.inl (Or.inl h1)⟩
  ·exact⟨t,ht,Or.inl (Or.inr h1)⟩
  ·exact⟨t,ht,Or.inr h1⟩
theorem Zhq {a kind key:Int}:∀{bs:List HTx},(bs.map (·.id)).Pairwise (·<·)→((hrB h a kind key bs).map (·.e)).Pairwise fun a b=>ltE a b=true
 |[],_=>List.Pairwise.nil
 |b::bs,hp=>by
  rw[List.map_cons,List.pairwise_cons]at hp;have ih:=Zhq (a:=a) (kind:=kind) (key:=key) hp.2
  show((((if 0<ZB h ⟨a,b.id,kind,key⟩ then [_] else []):List Hvy)++hrB h a kind key bs).map (·.e)).Pairwise _
  rw[List.map_append]
  split
  ·refine List.pairwise_cons.2 ⟨fun y hy=> ?_,ih⟩;obtain⟨x,hx,rfl⟩:=List.mem_map.1 hy;obtain⟨u,hu,_,rfl⟩:=mem_hrB.1 hx;have:=hp.1 u.id (List.mem_map.2 ⟨u,hu,rfl⟩);exact(Zbc _ _).2 (Or.inr ⟨rfl,Or.inr ⟨rfl,Or.inr ⟨rfl,this⟩⟩⟩)
  ·exact ih
theorem Zhp (hr:(h.txs.map (·.id)).Pairwise (·<·)) {a kind:Int}:∀{ks:List Int},ks.Pairwise (·<·)→((hrK h a kind ks).map (·.e)).Pairwise fun a b=>ltE a b=true
 |[],_=>List.Pairwise.nil
 |k::ks,hp=>by
  rw[List.pairwise_cons]at hp;have ih:=Zhp hr (a:=a) (kind:=kind) hp.2
  show((hrB h a kind k h.txs++hrK h a kind ks).map (·.e)).Pairwise _
  rw[List.map_append,List.pairwise_append];refine⟨Zhq hr,ih,fun y hy z hz=> ?_⟩;obtain⟨x,hx,rfl⟩:=List.mem_map.1 hy;obtain⟨v,hv,rfl⟩:=List.mem_map.1 hz;obtain⟨u,hu,_,rfl⟩:=mem_hrB.1 hx;obtain⟨k2,hk2,u2,hu2,_,rfl⟩:=mem_hrK.1 hv;have:=hp.1 k2 hk2;exact(Zbc _ _).2 (Or.inr ⟨rfl,Or.inr ⟨rfl,Or.inl this⟩⟩)
theorem ZrR (txs:List HTx):(Zbv txs).Pairwise (·<·):=ZeZ _ _ List.Pairwise.nil
theorem Zhr (hr:(h.txs.map (·.id)).Pairwise (·<·)):∀{ts:List HTx},(ts.map (·.id)).Pairwise (·<·)→((hrA h ts).map (·.e)).Pairwise fun a b=>ltE a b=true
 |[],_=>List.Pairwise.nil
 |t::ts,hp=>by
  rw[List.map_cons,List.pairwise_cons]at hp;have ih:=Zhr hr hp.2
  show((hrN h t.id 3++hrA h ts).map (·.e)).Pairwise _
  have hkk:=fun kind=>Zhp hr (a:=t.id) (kind:=kind) (ZrR h.txs)
  rw[ZpI,List.map_append,List.map_append,List.map_append,List.pairwise_append,List.pairwise_append,List.pairwise_append];refine⟨⟨⟨hkk 1,hkk 2,fun y hy z hz=> ?_⟩,hkk 3,fun y hy z hz=> ?_⟩,ih,fun y hy z hz=> ?_⟩
  ·obtain⟨x,hx,rfl⟩:=List.mem_map.1 hy;obtain⟨v,hv,rfl⟩:=List.mem_map.1 hz;obtain⟨k2,_,u,_,_,rfl⟩:=mem_hrK.1 hx;obtain⟨k3,_,u3,_,_,rfl⟩:=mem_hrK.1 hv;exact(Zbc _ _).2 (Or.inr ⟨rfl,Or.inl (show(1:Int)<2 by decide)⟩)
  ·obtain⟨v,hv,rfl⟩:=List.mem_map.1 hz;obtain⟨k3,_,u3,_,_,rfl⟩:=mem_hrK.1 hv;rcases List.mem_append.1 hy with hy|hy
   ·obtain⟨x,hx,rfl⟩:=List.mem_map.1 hy;obtain⟨k2,_,u,_,_,rfl⟩:=mem_hrK.1 hx;exact(Zbc _ _).2 (Or.inr ⟨rfl,Or.inl (show(1:Int)<3 by decide)⟩)
   ·obtain⟨x,hx,rfl⟩:=List.mem_map.1 hy;obtain⟨k2,_,u,_,_,rfl⟩:=mem_hrK.1 hx;exact(Zbc _ _).2 (Or.inr ⟨rfl,Or.inl (show(2:Int)<3 by decide)⟩)
  ·obtain⟨v,hv,rfl⟩:=List.mem_map.1 hz;obtain⟨t2,ht2,kind,_,hx2⟩:=mem_hrA.1 hv;obtain⟨k3,_,u3,_,_,rfl⟩:=mem_hrK.1 hx2;have:=hp.1 t2.id (List.mem_map.2 ⟨t2,ht2,rfl⟩)
   have hy2:y.f=t.id:=by
    rcases List.mem_append.1 hy with hy|hy
    ·rcases List.mem_append.1 hy with hy|hy
     ·obtain⟨x,hx,rfl⟩:=List.mem_map.1 hy;obtain⟨k2,_,u,_,_,rfl⟩:=mem_hrK.1 hx;rfl
     ·obtain⟨x,hx,rfl⟩:=List.mem_map.1 hy;obtain⟨k2,_,u,_,_,rfl⟩:=mem_hrK.1 hx;rfl
    ·obtain⟨x,hx,rfl⟩:=List.mem_map.1 hy;obtain⟨k2,_,u,_,_,rfl⟩:=mem_hrK.1 hx;rfl
   exact(Zbc _ _).2 (Or.inl (by rw[hy2];exact this))
theorem Zpu (txs:List HTx) (key:Int):key∈Zbv txs↔∃t∈txs,∃o∈t.ops,o.key=key:=by
 unfold Zbv txK opK;rw[Zew,List.mem_flatMap];simp only[List.mem_map,List.not_mem_nil,false_or]
theorem Zi0 (hr:Zb h=true) {e:Edge} (hc:ZB h e≠0):(∃a∈h.txs,a.id=e.f)∧(∃b∈h.txs,b.id=e.t)∧(e.k=1∨e.k=2∨e.k=3)∧e.key∈Zbv h.txs:=by
 unfold ZB at hc
 cases ha:ZG h.txs e.f with
 |none=>rw[ha]at hc;exact absurd rfl hc
 |some a=>
  cases hb:ZG h.txs e.t with
  |none=>rw[ha,hb]at hc;exact absurd rfl hc
  |some b=>
   rw[ha,hb]at hc;simp only at hc;obtain⟨ha1,ha2⟩:=Zee (Zbp ha).1;obtain⟨hb1,hb2⟩:=Zee (Zbp hb).1;refine⟨⟨a,ha1,ha2⟩,⟨b,hb1,hb2⟩,?_⟩;rw[Zpu]
   split at hc
   ·exact absurd rfl hc
   ·split at hc
    ·rename_i hk
     refine⟨Or.inl hk,?_⟩
     split at hc
     ·rename_i hn
      obtain⟨o,ho,hok,i,hi,hy⟩:=(ZcU hr _ _ _).1 hn;have hw:=(ZcA hr ho).mem_iff.1 (List.mem_of_getElem? hy);unfold Ze at hw;obtain⟨t,ht,_⟩:=List.mem_map.1 hw;rw[List.mem_filter,Bool.and_eq_true,List.contains_iff_mem]at ht;have hk2:=ht.2.2;unfold Z8 at hk2;rw[ZaJ]at hk2;unfold Zam at hk2;obtain⟨op,hop,hopk⟩:=List.mem_map.1 hk2;rw[List.mem_filter]at hop;exact⟨t,ht.1,op,hop.1,hopk.trans hok⟩
     ·exact absurd rfl hc
    ·split at hc
     ·rename_i hk
      refine⟨Or.inr (Or.inl hk),?_⟩;obtain⟨o,ho,hp⟩:=List.countP_pos_iff.1 (Nat.pos_of_ne_zero hc);unfold p2 at hp;simp only[Bool.and_eq_true,beq_iff_eq]at hp;exact⟨b,hb1,o,ho,hp.1.1.2⟩
     ·split at hc
      ·rename_i hk
       refine⟨Or.inr (Or.inr hk),?_⟩;obtain⟨o,ho,hp⟩:=List.countP_pos_iff.1 (Nat.pos_of_ne_zero hc);unfold p3 at hp;simp only[Bool.and_eq_true,beq_iff_eq]at hp;exact⟨a,ha1,o,ho,hp.1.1.1.2⟩
      ·exact absurd rfl hc
theorem Zbj (hr:Zb h=true) {x:Hvy}:x∈Zl h↔ZB h x.e≠0∧x.n=(ZB h x.e:Int):=by
 unfold Zl;rw[if_pos hr,mem_hrA]
 constructor
 ·rintro⟨t,_,kind,_,hx⟩;obtain⟨key,_,b,_,h1,rfl⟩:=mem_hrK.1 hx;exact⟨by simp only;omega,rfl⟩
 ·rintro⟨h1,h2⟩;obtain⟨⟨a,ha,hae⟩,⟨b,hb,hbe⟩,hk,hkey⟩:=Zi0 hr h1;refine⟨a,ha,x.e.k,hk,mem_hrK.2 ⟨x.e.key,hkey,b,hb,?_⟩⟩;obtain⟨⟨ef,et,ek,ey⟩,n⟩:=x;simp only at*;subst hae hbe h2;exact⟨by omega,rfl⟩
theorem ZeT:((Zl h).map (·.e)).Pairwise fun a b=>ltE a b=true:=by
 unfold Zl
 split
 ·rename_i hr;exact Zhr (Zc9 hr) (Zc9 hr)
 ·exact List.Pairwise.nil
theorem Zh1 (cnt:Int→Bool) (e:Edge):Zc3 cnt h e=if Zb h=true then (if cnt e.key=true then ZB h e else 0) else 0:=by
 unfold Zc3
 split
 ·rename_i hr;exact ZlF hr cnt e
 ·rfl
theorem Zmz:ZmV (Zc3 (fun _=>true) h) (Zl h):=by
 refine ZtD ZeT (fun e=> ?_) fun x hx=> ?_
 ·rw[Zh1]
  by_cases hr:Zb h=true
  ·rw[if_pos hr,if_pos rfl,List.mem_map]
   constructor
   ·rintro⟨x,hx,rfl⟩;exact((Zbj hr).1 hx).1
   ·intro hc;exact⟨⟨e,(ZB h e:Int)⟩,(Zbj hr).2 ⟨hc,rfl⟩,rfl⟩
  ·rw[if_neg hr];unfold Zl;rw[if_neg hr];simp
 ·by_cases hr:Zb h=true
  ·rw[Zh1,if_pos hr,if_pos rfl];exact((Zbj hr).1 hx).2
  ·unfold Zl at hx;rw[if_neg hr]at hx;cases hx
theorem ZlB (a kind key:Int):∀bs:List HTx,(hrB h a kind key bs).length≤bs.length
 |[]=>Nat.le_refl _
 |b::bs=>by
  have:=ZlB a kind key bs
  show((((if 0<ZB h ⟨a,b.id,kind,key⟩ then [_] else []):List Hvy)++hrB h a kind key bs)).length≤_
  rw[List.length_append,List.length_cons]
  split<;>simp<;>omega
theorem ZfQ (a kind:Int) (n:h.txs.length≤12):∀ks:List Int,(hrK h a kind ks).length≤12*ks.length
 |[]=>Nat.le_refl _
 |k::ks=>by
  have h1:=ZfQ a kind n ks;have h2:=ZlB (h:=h) a kind k h.txs
  show(hrB h a kind k h.txs++hrK h a kind ks).length≤_
  rw[List.length_append,List.length_cons];omega
theorem ZlC (n:h.txs.length≤12) (n2:(Zbv h.txs).length≤288):∀ts:List HTx,(hrA h ts).length≤10368*ts.length
 |[]=>Nat.le_refl _
 |t::ts=>by
  have h1:=ZlC n n2 ts;have h2:=ZfQ (h:=h) t.id 1 n (Zbv h.txs);have h3:=ZfQ (h:=h) t.id 2 n (Zbv h.txs);have h4:=ZfQ (h:=h) t.id 3 n (Zbv h.txs)
  show(hrN h t.id 3++hrA h ts).length≤_
  rw[ZpI,List.length_append,List.length_append,List.length_append,List.length_cons];omega
theorem Zmy (n:h.txs.length≤12) (n2:∀t∈h.txs,t.ops.length≤24):(Zl h).length≤200000:=by
 unfold Zl
 split
 ·have h1:=ZkF h.txs n2;have:=ZlC n (by omega) h.txs;omega
 ·simp
theorem ZrF (n:h.txs.length≤12) (n2:∀t∈h.txs,t.ops.length≤24) (cnt:Int→Bool):ZpU (Zc3 cnt h):=by
 refine ZtA (l:=(Zl h).map (·.e)) (fun e hg=> ?_) (by rw[List.length_map];have:=Zmy n n2;omega);rw[Zh1]at hg
 by_cases hr:Zb h=true
 ·rw[if_pos hr]at hg
  by_cases hc:cnt e.key=true
  ·rw[if_pos hc]at hg;exact List.mem_map.2 ⟨⟨e,(ZB h e:Int)⟩,(Zbj hr).2 ⟨hg,rfl⟩,rfl⟩
  ·rw[if_neg hc]at hg;exact absurd rfl hg
 ·rw[if_neg hr]at hg;exact absurd rfl hg
end
end
end Go.Proofs.YtklmahmfmbppkaaGreat
