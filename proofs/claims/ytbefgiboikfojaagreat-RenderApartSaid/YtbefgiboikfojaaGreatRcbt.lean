/- Edges of a history: dsg.list. -/
import Derived.Test.YtbefgiboikfojaaGreatRcbb
import Derived.Test.YtbefgiboikfojaaGreatRcbd
namespace Go.Proofs.YtbefgiboikfojaaGreat
open Go.RowKit
set_option linter.unusedVariables false
set_option linter.unusedSimpArgs false
set_option maxRecDepth 100000
set_option maxHeartbeats 8000000
structure Hvy where
 e:Edge
 n:Int
deriving DecidableEq
def Hvy.cells(h:Hvy):Gl:=[Qi h.e.f,Qi h.e.t,Qi h.e.k,Qi h.e.key,Qi h.n]
def Zef(l:List Hvy):Gl:=(l.map Hvy.cells).flatten
theorem Ztf{l:List Hvy}:∀r∈l.map Hvy.cells,r.length=5:=fun r hr=>by
 obtain⟨e,_,rfl⟩:=Gc.1 hr;rfl
theorem ZkH(l:List Hvy)(x:Hvy):Zef (l++[x])=Zef l++x.cells:=by unfold Zef;simp
def Hvys(F:Gt)(w:Gy)(A:OA)(l:List Hvy):Prop:=Recs F w A 5 (l.map Hvy.cells)
theorem Hvys.upd{F S:Gt}{w w':Gy}{A:OA}{l:List Hvy}(h:Hvys F w A l)(k:Upd S w w')(hn:∀i,F i->¬S i):Hvys F w' A l:=Recs.upd h k hn
theorem Znc:SlT Tryz.prog 63 96 5 40:=SlT.mk_ Tryz.underlying63 (z:= .agg #[Qi 0,Qi 0,Qi 0,Qi 0,Qi 0]) (by kernel_rfl) rfl (by omega)
def ZoL(w:Gy)(l:List Hvy)(e:Ending)(w':Gy):Prop:=∃A c,e= .returned (.slice A l.length c)∧w'.ownsRow w.heap.size 96 5 (.slice A l.length c) l.length (Zef l)∧Upd No w w'
def hvL(g:Edge->Nat)(l:List Edge):List Hvy:=l.map fun e=>⟨e,(g e:Int)⟩
theorem ZrF{g:Edge->Nat}{l:List Edge}{k:Nat}{x:Edge}(hk:k<l.length)(hx:l[k]=x):hvL g (l.take (k+1))=hvL g (l.take k)++[⟨x,(g x:Int)⟩]:=by
 subst hx;unfold hvL;rw[Es hk,F4];rfl
/- Edges of a history:dsg.Edges,Of,Count,Plain. -/
def ZrP(g:Edge->Nat):Prop:=∀mc:List (Edge×Gz),CntM mc g->mc.length<=1000000
section
variable {F:Gt} {w:Gy} {txs:List HTx} {ords:Gq} {A:OA} {c:Nat} {B:OA} {d:Nat} {l:List Hvy}
end
/- Edges of a history,the document's:those of a key,without counts;whether two lists are one. -/
def ZR(l:List Hvy):List Edge:=l.map (·.e)
theorem ZhC{l:List Hvy}{k:Nat}{x:Hvy}(hk:k<l.length)(hx:l[k]=x):ZR (l.take (k+1))=ZR (l.take k)++[x.e]:=by
 subst hx;unfold ZR;rw[Es hk,F4];rfl
def ZeY(l:List Edge):Gl:=(l.map Edge.cells).flatten
theorem Ziw(xs:List Edge)(e:Edge):ZeY (xs++[e])=ZeY xs++e.cells:=by unfold ZeY;simp
def ZsD(w:Gy)(l:List Edge)(e:Ending)(w':Gy):Prop:=∃A c,e= .returned (.slice A l.length c)∧w'.ownsRow w.heap.size 94 4 (.slice A l.length c) l.length (ZeY l)∧Upd No w w'
/- Edges of a history,the document's:all keys;all edges. -/
def opK(l:Gu):Gv:=l.map (·.key)
def txK(txs:List HTx):Gv:=txs.flatMap fun t=>opK t.ops
def Zcr(txs:List HTx):Gv:=Z2 [] (txK txs)
theorem Zgq(s a b:Gv):Z2 s (a++b)=Z2 (Z2 s a) b:=by
 induction a generalizing s with
 |nil=>rfl
 |cons x a ih=>exact ih _
theorem ZqJ{txs:List HTx}{k:Nat}{x:HTx}(hk:k<txs.length)(hx:txs[k]=x):txK (txs.take (k+1))=txK (txs.take k)++opK x.ops:=by
 subst hx;unfold txK;rw[Es hk,List.flatMap_append];simp
theorem Zrq{l:Gu}{k:Nat}{x:HOp}(hk:k<l.length)(hx:l[k]=x):opK (l.take (k+1))=opK (l.take k)++[x.key]:=by
 subst hx;unfold opK;rw[Es hk,F4];rfl
def ZwE(w:Gy)(l:Gv)(e:Ending)(w':Gy):Prop:=∃A c,e= .returned (.slice A l.length c)∧Ints (fun i=>w.heap.size<=i) w' A l∧Upd No w w'
/-! all edges -/
def hrB(h:Hist)(a kind key:Int)(bs:List HTx):List Hvy:=bs.flatMap fun b=>if 0<ZH h ⟨a,b.id,kind,key⟩ then [⟨⟨a,b.id,kind,key⟩,(ZH h ⟨a,b.id,kind,key⟩:Int)⟩] else []
def hrK(h:Hist)(a kind:Int)(ks:Gv):List Hvy:=ks.flatMap fun key=>hrB h a kind key h.txs
def hrN(h:Hist)(a:Int):Nat->List Hvy
 |0=>[]
 |n+1=>hrN h a n++hrK h a ((n:Int)+1) (Zcr h.txs)
def hrA(h:Hist)(ts:List HTx):List Hvy:=ts.flatMap fun t=>hrN h t.id 3
def ZB(h:Hist):List Hvy:=if Zc h=true then hrA h h.txs else []
theorem ZrI{h:Hist}{a kind key:Int}{bs:List HTx}{k:Nat}{x:HTx}(hk:k<bs.length)(hx:bs[k]=x):hrB h a kind key (bs.take (k+1))=hrB h a kind key (bs.take k)++if 0<ZH h ⟨a,x.id,kind,key⟩ then [⟨⟨a,x.id,kind,key⟩,(ZH h ⟨a,x.id,kind,key⟩:Int)⟩] else []:=by
 subst hx;unfold hrB;rw[Es hk,List.flatMap_append];simp
theorem ZrH{h:Hist}{a kind:Int}{ks:Gv}{k:Nat}{x:Int}(hk:k<ks.length)(hx:ks[k]=x):hrK h a kind (ks.take (k+1))=hrK h a kind (ks.take k)++hrB h a kind x h.txs:=by
 subst hx;unfold hrK;rw[Es hk,List.flatMap_append];simp
theorem ZrJ{h:Hist}{ts:List HTx}{k:Nat}{x:HTx}(hk:k<ts.length)(hx:ts[k]=x):hrA h (ts.take (k+1))=hrA h (ts.take k)++hrN h x.id 3:=by
 subst hx;unfold hrA;rw[Es hk,List.flatMap_append];simp
/- Edges of a history,in plain words:what is counted is what the document counts. -/
theorem ZjH(key:Int)(e:Edge):∀l:Gv,e∈wwO key l↔e.k=1∧e.key=key∧∃i:Nat,l[i]? =some e.f∧l[i+1]? =some e.t
 |[]=>by simp[wwO]
 |[a]=>by
  simp[wwO]
 |a::b::l=>by
  have ih:=ZjH key e (b::l)
  show e∈[⟨a,b,1,key⟩]++wwO key (b::l)↔_
  rw[Fu,Fa,ih]
  constructor
  ·rintro(rfl|⟨h1,h2,i,h3,h4⟩)
   ·exact⟨rfl,rfl,0,rfl,rfl⟩
   ·exact⟨h1,h2,i+1,h3,h4⟩
  ·rintro⟨h1,h2,i,h3,h4⟩
   cases i with
   |zero=>
    left
    simp at h3 h4;obtain⟨ef,et,ek,ey⟩:=e;simp only at h1 h2 h3 h4;subst h1 h2 h3 h4;rfl
   |succ i=>exact Or.inr ⟨h1,h2,i,h3,h4⟩
theorem Zs7(cnt:Int->Bool)(ords:Gq)(e:Edge):e∈wwL cnt ords↔e.k=1∧cnt e.key=true∧∃o∈ords,o.key=e.key∧∃i:Nat,o.txs[i]? =some e.f∧o.txs[i+1]? =some e.t:=by
 unfold wwL;rw[List.mem_flatMap]
 constructor
 ·rintro⟨o,ho,h⟩;unfold wwC at h
  split at h
  ·rename_i hc
   obtain⟨h1,h2,h3⟩:=(ZjH _ _ _).1 h;exact⟨h1,by rw[h2];exact hc,o,ho,h2.symm,h3⟩
  ·cases h
 ·rintro⟨h1,h2,o,ho,h3,h4⟩;refine⟨o,ho,?_⟩;unfold wwC;rw[if_pos (by rw[h3];exact h2)];exact(ZjH _ _ _).2 ⟨h1,h3.symm,h4⟩
/-! what was laid last -/
theorem Zi4(p:Int×Int):∀(L:List ((Int×Int)×Int)) (a:Int),(∀e∈L,e.1≠p)->L.foldl (fun a e=>if e.1=p then e.2 else a) a=a
 |[],_,_=>rfl
 |e::L,a,h=>by
  rw[List.foldl_cons,if_neg (h e (Fc ..))];exact Zi4 p L a fun x hx=>h x (E7 _ hx)
theorem ZkB(p:Int×Int)(v:Int):∀(L:List ((Int×Int)×Int)) (a:Int),(∀e∈L,e.1=p->e.2=v)->(a=v∨∃e∈L,e.1=p)->L.foldl (fun a e=>if e.1=p then e.2 else a) a=v
 |[],a,_,h=>by
  rcases h with h|⟨e,he,_⟩
  ·exact h
  ·cases he
 |e::L,a,h,h2=>by
  rw[List.foldl_cons];refine ZkB p v L _ (fun x hx=>h x (E7 _ hx)) ?_
  by_cases hp:e.1=p
  ·rw[if_pos hp];exact Or.inl (h e (Fc ..) hp)
  ·rw[if_neg hp];rcases h2 with h2|⟨x,hx,Ah⟩
   ·exact Or.inl h2
   ·rcases F9.1 hx with rfl|hx
    ·exact absurd Ah hp
    ·exact Or.inr ⟨x,hx,Ah⟩
theorem ZgL(key:Int)(e:(Int×Int)×Int):∀(l:Gv) (a:Int),e∈Za6 key a l↔e.1.1=key∧∃i:Nat,(a::l)[i]? =some e.1.2∧l[i]? =some e.2
 |[],a=>by simp[Za6]
 |x::l,a=>by
  show e∈((key,a),x)::Za6 key x l↔_
  rw[F9,ZgL key e l x]
  constructor
  ·rintro(rfl|⟨h1,i,h2,h3⟩)
   ·exact⟨rfl,0,rfl,rfl⟩
   ·exact⟨h1,i+1,h2,h3⟩
  ·rintro⟨h1,i,h2,h3⟩
   cases i with
   |zero=>
    left
    obtain⟨⟨e1,e2⟩,e3⟩:=e;simp at h1 h2 h3;subst h1 h2 h3;rfl
   |succ i=>exact Or.inr ⟨h1,i,h2,h3⟩
def Nx(ords:Gq)(key x y:Int):Prop:=∃o∈ords,o.key=key∧∃i:Nat,(0::o.txs)[i]? =some x∧o.txs[i]? =some y
theorem ZgM(ords:Gq)(key x y:Int):((key,x),y)∈ZK ords↔Nx ords key x y:=by
 unfold ZK Nx;rw[List.mem_flatMap]
 constructor
 ·rintro⟨o,ho,h⟩;obtain⟨h1,h2⟩:=(ZgL _ _ _ _).1 h;exact⟨o,ho,h1.symm,h2⟩
 ·rintro⟨o,ho,h1,h2⟩;exact⟨o,ho,(ZgL _ _ _ _).2 ⟨h1.symm,h2⟩⟩
section
variable {h:Hist}
theorem Zfc(hr:Zc h=true){i:Nat}(hi:i<h.ords.length):ZdX h.txs h.ords i=true:=by
 unfold Zc at hr;simp only[Fp,Fn,F8]at hr;exact hr.2 i hi
theorem Zgp(hr:Zc h=true):(h.ords.map (·.key)).Pairwise (·<·):=ZjD fun j hj=>by
 rw[F6]at hj;have:=((ZeE hj).1 (Zfc hr hj)).1 j rfl;rw[show(h.ords.map (·.key)).getD (j+1) 0=h.ords[j+1].key by rw[List.getD_eq_getElem?_getD,List.getElem?_map,Qg hj];rfl];exact this
theorem ZcK(hr:Zc h=true){o:HOrd}(ho:o∈h.ords):o.txs.Perm (Zm h.txs o.key):=by
 obtain⟨j,hj,rfl⟩:=E8.1 ho;have:=((ZeE hj).1 (Zfc hr hj)).2.2;rw[ZfU,beq_iff_eq]at this;exact(Zaw _).symm.trans (this▸Zaw _)
theorem Zfd(hr:Zc h=true):(h.txs.map (·.id)).Nodup:=ZcJ (Zep hr)
theorem ZiA(hr:Zc h=true){o:HOrd}(ho:o∈h.ords):o.txs.Nodup:=by
 refine(ZcK hr ho).nodup_iff.2 ?_;unfold Zm;exact(Zfd hr).sublist (List.filter_sublist.map _)
theorem Zc3(hr:Zc h=true){o:HOrd}(ho:o∈h.ords){x:Int}(hx:x∈o.txs):∃t,ZU h.txs x=some t∧1<=x:=by
 have h1:=(ZcK hr ho).mem_iff.1 hx;unfold Zm at h1;obtain⟨t,ht,rfl⟩:=Gc.1 h1;rw[Fw,Fp]at ht;refine⟨t,?_,ZhX hr ht.1⟩;unfold ZU;rw[ZiC hr ht.1];simp[ht.2.1]
theorem Zgo(hr:Zc h=true){o u:HOrd}(ho:o∈h.ords)(hu:u∈h.ords)(hk:o.key=u.key):o=u:=by
 obtain⟨i,hi,rfl⟩:=E8.1 ho;obtain⟨j,hj,rfl⟩:=E8.1 hu;have hp:=List.pairwise_iff_getElem.1 (Zgp hr);rcases Nat.lt_trichotomy i j with h1|h1|h1
 ·have:=hp i j (by simpa using hi) (by simpa using hj) h1;simp only[Fk]at this;omega
 ·subst h1;rfl
 ·have:=hp j i (by simpa using hj) (by simpa using hi) h1;simp only[Fk]at this;omega
theorem Ze1{l:Gv}(hn:l.Nodup){i j:Nat}{x:Int}(h1:l[i]? =some x)(h2:l[j]? =some x):i=j:=by
 obtain⟨hi,e1⟩:=List.getElem?_eq_some_iff.1 h1;obtain⟨hj,e2⟩:=List.getElem?_eq_some_iff.1 h2;exact(List.getElem_inj hn).1 (e1.trans e2.symm)
theorem Zc8(hr:Zc h=true){o:HOrd}(ho:o∈h.ords):(0::o.txs).Nodup:=by
 refine Fx.2 ⟨fun hm=>?_,ZiA hr ho⟩;obtain⟨_,_,h1⟩:=Zc3 hr ho hm;omega
theorem Nx.one(hr:Zc h=true){key x y z:Int}(h1:Nx h.ords key x y)(h2:Nx h.ords key x z):y=z:=by
 obtain⟨o,ho,hk,i,hi,hy⟩:=h1;obtain⟨u,hu,hk2,j,hj,hz⟩:=h2;obtain rfl:=Zgo hr ho hu (hk.trans hk2.symm);obtain rfl:=Ze1 (Zc8 hr ho) hi hj;rw[hy]at hz;exact Option.some.inj hz
theorem Nx.ids(hr:Zc h=true){key x y:Int}(h1:Nx h.ords key x y):(∃t,ZU h.txs y=some t)∧1<=y∧x≠y∧(x=0∨∃t,ZU h.txs x=some t):=by
 obtain⟨o,ho,hk,i,hi,hy⟩:=h1;obtain⟨t,ht,h2⟩:=Zc3 hr ho (E6 hy);refine⟨⟨t,ht⟩,h2,fun e=>?_,?_⟩
 ·subst e;have h3:(0::o.txs)[i+1]? =some x:=hy;have:=Ze1 (Zc8 hr ho) hi h3;omega
 ·cases i with
  |zero=>left;simpa using hi.symm
  |succ i=>
   right
   obtain⟨t2,oS,_⟩:=Zc3 hr ho (E6 (show o.txs[i]? =some x from hi));exact⟨t2,oS⟩
theorem Zno(hr:Zc h=true)(key x:Int):(Zak (ZK h.ords) (key,x)=0∧∀y,¬Nx h.ords key x y)∨Nx h.ords key x (Zak (ZK h.ords) (key,x)):=by
 by_cases hx:∃y,Nx h.ords key x y
 ·obtain⟨y,hy⟩:=hx
  right
  have:Zak (ZK h.ords) (key,x)=y:=by
   unfold Zak;refine ZkB (key,x) y _ 0 (fun e he hp=>?_) (Or.inr ⟨((key,x),y),(ZgM _ _ _ _).2 hy,rfl⟩);obtain⟨p,v⟩:=e;simp only at hp;subst hp;exact Nx.one hr ((ZgM _ _ _ _).1 he) hy
  rw[this];exact hy
 ·left
  refine⟨?_,fun y hy=>hx ⟨y,hy⟩⟩;unfold Zak;refine Zi4 (key,x) _ 0 fun e he hp=>hx ⟨e.2,?_⟩
  obtain⟨p,v⟩:=e;simp only at hp;subst hp;exact(ZgM _ _ _ _).1 he
theorem Zl6(hr:Zc h=true)(key x y:Int)(hy:y≠0):Zak (ZK h.ords) (key,x)=y↔Nx h.ords key x y:=by
 rcases Zno hr key x with ⟨h1,h2⟩|h1
 ·rw[h1];exact⟨fun e=>absurd e.symm hy,fun e=>absurd e (h2 y)⟩
 ·constructor
  ·intro e;rw[<-e];exact h1
  ·intro e;exact Nx.one hr h1 e
theorem ZlL(hr:Zc h=true){o:HOrd}(ho:o∈h.ords):ZdJ h.ords o.key=o.txs:=by
 obtain⟨k,hk,rfl⟩:=E8.1 ho;have hp:=List.pairwise_iff_getElem.1 (Zgp hr)
 have:Zh1 h.ords h.ords[k].key=k:=Zre hk (fun j hj=>by
  have:=hp j k (by simp;omega) (by simpa using hk) hj;simp only[Fk]at this;rw[beq_eq_false_iff_ne];omega) (by simp)
 unfold ZdJ;rw[this,Qg hk]
theorem ZlM{key:Int}(hn:∀o∈h.ords,o.key≠key):ZdJ h.ords key=[]:=by
 have:Zh1 h.ords key=h.ords.length:=by
  unfold Zh1;rw[List.findIdx_eq_length];intro o ho
  simpa using hn o ho
 unfold ZdJ;rw[this,List.getElem?_eq_none (Nat.le_refl _)]
theorem ZpL{l:Gv}(hn:(0::l).Nodup)(x y:Int):ZaI l x=some y↔∃i:Nat,(0::l)[i]? =some x∧l[i]? =some y:=by
 unfold ZaI
 by_cases h0:x=0
 ·subst h0;rw[if_pos rfl]
  constructor
  ·intro h;exact⟨0,rfl,h⟩
  ·rintro⟨i,h1,h2⟩;obtain rfl:=Ze1 hn h1 (show(0::l)[0]? =some 0 from rfl);exact h2
 ·rw[if_neg h0]
  by_cases hm:x∈l
  ·obtain⟨k,hk,hx⟩:=E8.1 hm
   have a8:Zbt l x<l.length:=by
    unfold Zbt;rw[List.findIdx_lt_length];exact⟨x,hm,by simp⟩
   have qk:l[Zbt l x]? =some x:=by
    have:=List.findIdx_getElem (p:=(·==x)) (xs:=l) (w:=a8);rw[beq_iff_eq]at this;rw[Qg a8];exact congrArg some this
   rw[if_pos a8]
   constructor
   ·intro h;exact⟨Zbt l x+1,qk,h⟩
   ·rintro⟨i,h1,h2⟩;have:=Ze1 hn h1 (show(0::l)[Zbt l x+1]? =some x from qk);rw[<-this];exact h2
  ·have a8:¬Zbt l x<l.length:=by
    unfold Zbt;rw[List.findIdx_lt_length];rintro⟨z,hz,e⟩;simp at e;subst e;exact hm hz
   rw[if_neg a8]
   constructor
   ·intro h;cases h
   ·rintro⟨i,h1,h2⟩
    cases i with
    |zero=>exact absurd (by simpa using h1.symm) h0
    |succ i=>exact absurd (E6 (show l[i]? =some x from h1)) hm
theorem Zdi(hr:Zc h=true)(key x y:Int):Zc4 h.ords key x y=true↔Nx h.ords key x y:=by
 unfold Zc4;rw[beq_iff_eq]
 by_cases hk:∃o∈h.ords,o.key=key
 ·obtain⟨o,ho,rfl⟩:=hk;rw[ZlL hr ho,ZpL (Zc8 hr ho)]
  constructor
  ·intro h1;exact⟨o,ho,rfl,h1⟩
  ·rintro⟨u,hu,hk,h1⟩;obtain rfl:=Zgo hr hu ho hk;exact h1
 ·rw[ZlM (fun o ho e=>hk ⟨o,ho,e⟩)]
  constructor
  ·intro h1;unfold ZaI Zbt at h1;simp at h1
  ·rintro⟨u,hu,hk2,_⟩;exact absurd ⟨u,hu,hk2⟩ hk
end
/- Edges of a history,in plain words:each is counted as often as the document counts it. -/
section
variable {β:Type} [DecidableEq β]
theorem Zg5(f:HTx->List β)(a:β):∀ts:List HTx,(∀u∈ts,ZA (f u) a=0)->ZA (ts.flatMap f) a=0
 |[],_=>rfl
 |u::ts,h=>by
  rw[List.flatMap_cons,ZaZ,h u (Fc ..),Zg5 f a ts fun x hx=>h x (E7 _ hx)]
theorem Zg6(f:HTx->List β)(a:β):∀ts:List HTx,(ts.map (·.id)).Nodup->∀t∈ts,(∀u∈ts,u.id≠t.id->ZA (f u) a=0)->ZA (ts.flatMap f) a=ZA (f t) a
 |[],_,_,ht,_=>by cases ht
 |u::ts,hn,t,ht,h=>by
  rw[Gb,Fx]at hn;rw[List.flatMap_cons,ZaZ];rcases F9.1 ht with rfl|ht
  ·rw[Zg5 f a ts fun x hx=>h x (E7 _ hx) fun e=>hn.1 (e▸Gc.2 ⟨x,hx,rfl⟩)];rfl
  ·rw[h u (Fc ..) fun e=>hn.1 (e▸Gc.2 ⟨t,ht,rfl⟩),Zg6 f a ts hn.2 t ht fun x hx=>h x (E7 _ hx)];omega
end
theorem ZkX(id key:Int):∀l:Gu,ZA (ZbU id l) (id,key)=(l.filter (isW key)).length
 |[]=>rfl
 |o::l=>by
  have ih:=ZkX id key l;unfold ZbU at ih ⊢
  by_cases h:isW key o=true
  ·have h2:(!o.read)=true∧o.key=key:=by unfold isW at h;simpa using h
   rw[List.filter_cons_of_pos (p:=fun o:HOp=> !o.read) h2.1,List.filter_cons_of_pos h,Gb,Fs,<-ih];have:=ZaZ [(id,o.key)] ((l.filter fun o=> !o.read).map fun o=>(id,o.key)) (id,key);rw[List.singleton_append]at this;rw[this,ZeR,if_pos (by rw[h2.2])];omega
  ·rw[List.filter_cons_of_neg h,<-ih]
   by_cases hr:(!o.read)=true
   ·rw[List.filter_cons_of_pos (p:=fun o:HOp=> !o.read) hr,Gb];have:=ZaZ [(id,o.key)] ((l.filter fun o=> !o.read).map fun o=>(id,o.key)) (id,key);rw[List.singleton_append]at this;rw[this,ZeR,if_neg (fun e=>h (by unfold isW;rw[hr];simp[(Prod.mk.inj e).2]))];omega
   ·rw[List.filter_cons_of_neg (p:=fun o:HOp=> !o.read) hr]
theorem Zmv(id i key:Int)(hne:id≠i)(l:Gu):ZA (ZbU id l) (i,key)=0:=by
 unfold ZA ZbU;rw[List.length_eq_zero_iff,List.filter_eq_nil_iff];intro x hx;obtain⟨o,_,rfl⟩:=Gc.1 hx;simp[hne]
section
variable {h:Hist}
theorem ZeP(hr:Zc h=true)(i:Int):i∈ZW h.txs↔∃t,ZU h.txs i=some t:=by
 unfold ZW;rw[Gc]
 constructor
 ·rintro⟨t,ht,rfl⟩;rw[Fw]at ht;refine⟨t,?_⟩;unfold ZU;rw[ZiC hr ht.1];simp[ht.2]
 ·rintro⟨t,ht⟩;have h1:=Zcg ht;have h2:=ZdO h1.1;exact⟨t,Fw.2 ⟨h2.1,h1.2⟩,h2.2⟩
theorem Zea{i:Int}{t:HTx}(ht:ZU h.txs i=some t):t∈h.txs.filter (·.done)∧t.id=i:=by
 have h1:=Zcg ht;have h2:=ZdO h1.1;exact⟨Fw.2 ⟨h2.1,h1.2⟩,h2.2⟩
theorem Zjj(hr:Zc h=true):((h.txs.filter (·.done)).map (·.id)).Nodup:=(Zfd hr).sublist (List.filter_sublist.map _)
theorem ZfD(hr:Zc h=true){i:Int}{t:HTx}(ht:ZU h.txs i=some t)(key:Int):ZA (Zo h.txs) (i,key)=Zd t.ops key:=by
 obtain⟨h1,rfl⟩:=Zea ht;unfold Zo;rw[Zg6 (fun t=>ZbU t.id t.ops) (t.id,key) _ (Zjj hr) t h1 (fun u _ hne=>Zmv _ _ _ hne _),ZkX];unfold Zd wrN;rw[Fj]
def Zfu(h:Hist)(o:HOp):Prop:=o.tx=0∨(o.tx∈ZW h.txs∧(ZA (Zo h.txs) (o.tx,o.key):Int)=o.nth)
instance (o:HOp):Decidable (Zfu h o):=inferInstanceAs (Decidable (_∨_))
theorem Zi5(hr:Zc h=true)(o:HOp):Zfu h o↔ZbR h.txs ⟨o.tx,o.key,o.nth⟩=true:=by
 unfold Zfu ZbR
 by_cases h0:o.tx=0
 ·simp[h0]
 ·rw[if_neg h0,ZeP hr]
  cases hd:ZU h.txs o.tx with
  |none=>simp[h0]
  |some t=>
   have:=ZfD hr hd o.key;rw[this];simp[h0];exact eq_comm
theorem Zpr(ti:Int)(o:HOp)(e:Edge):ZA (Z4 (ZW h.txs) (Zo h.txs) (ZK h.ords) ti o) e=
  (if (o.tx≠ti∧Zfu h o)∧o.tx≠0∧e=⟨o.tx,ti,2,o.key⟩ then 1 else 0)+if (o.tx≠ti∧Zfu h o)∧(Zak (ZK h.ords) (o.key,o.tx)≠0∧Zak (ZK h.ords) (o.key,o.tx)≠ti)∧e=⟨ti,Zak (ZK h.ords) (o.key,o.tx),3,o.key⟩ then 1 else 0:=by
 unfold Z4 Zfu
 by_cases h1:o.tx=ti
 ·rw[if_pos h1,if_neg (fun h=>h.1.1 h1),if_neg (fun h=>h.1.1 h1),ZcF]
 ·rw[if_neg h1]
  by_cases h2:o.tx≠0∧o.tx∉ZW h.txs
  ·rw[if_pos h2,ZcF,if_neg,if_neg]
   ·rintro⟨⟨_,h3|h3⟩,_⟩
    ·exact h2.1 h3
    ·exact h2.2 h3.1
   ·rintro⟨⟨_,h3|h3⟩,_⟩
    ·exact h2.1 h3
    ·exact h2.2 h3.1
  ·rw[if_neg h2]
   by_cases h3:o.tx≠0∧(ZA (Zo h.txs) (o.tx,o.key):Int)≠o.nth
   ·rw[if_pos h3,ZcF,if_neg,if_neg]
    ·rintro⟨⟨_,h4|h4⟩,_⟩
     ·exact h3.1 h4
     ·exact h3.2 h4.2
    ·rintro⟨⟨_,h4|h4⟩,_⟩
     ·exact h3.1 h4
     ·exact h3.2 h4.2
   ·rw[if_neg h3,ZaZ]
    have hL:o.tx=0∨(o.tx∈ZW h.txs∧(ZA (Zo h.txs) (o.tx,o.key):Int)=o.nth):=by
     by_cases h0:o.tx=0
     ·exact Or.inl h0
     ·exact Or.inr ⟨Classical.byContradiction fun hh=>h2 ⟨h0,hh⟩,Classical.byContradiction fun hh=>h3 ⟨h0,hh⟩⟩
    congr 1
    ·by_cases h0:o.tx≠0
     ·rw[if_pos h0,ZeR]
      by_cases he:e=⟨o.tx,ti,2,o.key⟩
      ·rw[if_pos he,if_pos ⟨⟨h1,hL⟩,h0,he⟩]
      ·rw[if_neg he,if_neg (fun hh=>he hh.2.2)]
     ·rw[if_neg h0,ZcF,if_neg (fun hh=>h0 hh.2.1)]
    ·by_cases h0:Zak (ZK h.ords) (o.key,o.tx)≠0∧Zak (ZK h.ords) (o.key,o.tx)≠ti
     ·rw[if_pos h0,ZeR]
      by_cases he:e=⟨ti,Zak (ZK h.ords) (o.key,o.tx),3,o.key⟩
      ·rw[if_pos he,if_pos ⟨⟨h1,hL⟩,h0,he⟩]
      ·rw[if_neg he,if_neg (fun hh=>he hh.2.2)]
     ·rw[if_neg h0,ZcF,if_neg (fun hh=>h0 hh.2.1)]
theorem Zil(f:HOp->List Edge)(e:Edge)(p q:HOp->Bool):∀l:Gu,(∀o∈l,(if q o=true then ZA (f o) e else 0)=if p o=true then 1 else 0)->ZA ((l.filter q).flatMap f) e=l.countP p
 |[],_=>rfl
 |o::l,hh=>by
  have ih:=Zil f e p q l fun x hx=>hh x (E7 _ hx)
  have h1:=hh o (Fc ..);rw[Fi]
  by_cases hq:q o=true
  ·rw[List.filter_cons_of_pos hq,List.flatMap_cons,ZaZ,ih];rw[if_pos hq]at h1;omega
  ·rw[List.filter_cons_of_neg hq,ih];rw[if_neg hq]at h1;omega
theorem Zg7(f:HOp->List Edge)(e:Edge)(q:HOp->Bool)(l:Gu)(hh:∀o∈l,q o=true->ZA (f o) e=0):ZA ((l.filter q).flatMap f) e=0:=by
 rw[Zil f e (fun _=>false) q l (fun o ho=>by
  by_cases hq:q o=true
  ·rw[if_pos hq,hh o ho hq];rfl
  ·rw[if_neg hq];rfl)]
 simp
theorem ZcA(cnt:Int->Bool)(LD:Gv)(LW:List (Int×Int))(LN:List ((Int×Int)×Int))(e:Edge)(hh:∀u∈h.txs.filter (·.done),∀o∈u.ops,ZA (Z4 LD LW LN u.id o) e=0):ZA (rdL cnt LD LW LN h.txs) e=0:=by
 unfold rdL;exact Zg5 _ _ _ fun u hu=>Zg7 _ _ _ _ fun o ho _=>hh u hu o ho
theorem Zhi(hr:Zc h=true)(cnt:Int->Bool)(LD:Gv)(LW:List (Int×Int))(LN:List ((Int×Int)×Int))(e:Edge){t:HTx}(ht:t∈h.txs.filter (·.done))(hh:∀u∈h.txs.filter (·.done),u.id≠t.id->∀o∈u.ops,ZA (Z4 LD LW LN u.id o) e=0)
  (p:HOp->Bool) (hp:∀o∈t.ops,(if (o.read&&cnt o.key)=true then ZA (Z4 LD LW LN t.id o) e else 0)=if p o=true then 1 else 0):ZA (rdL cnt LD LW LN h.txs) e=t.ops.countP p:=by
 unfold rdL;rw[Zg6 (fun t=>rdO cnt LD LW LN t.id t.ops) e _ (Zjj hr) t ht (fun u hu hne=>Zg7 _ _ _ _ fun o ho _=>hh u hu hne o ho)];exact Zil _ _ _ _ _ hp
theorem Zet(cnt:Int->Bool)(e:Edge)(hr:Zc h=true):e∈wwL cnt h.ords↔e.k=1∧cnt e.key=true∧e.f≠0∧Nx h.ords e.key e.f e.t:=by
 rw[Zs7]
 constructor
 ·rintro⟨h1,h2,o,ho,hk,i,h3,h4⟩;refine⟨h1,h2,fun e0=>?_,o,ho,hk,i+1,h3,h4⟩;obtain⟨_,_,h5⟩:=Zc3 hr ho (E6 h3);omega
 ·rintro⟨h1,h2,h0,o,ho,hk,i,h3,h4⟩;refine⟨h1,h2,o,ho,hk,?_⟩
  cases i with
  |zero=>exact absurd (by simpa using h3.symm) h0
  |succ i=>exact⟨i,h3,h4⟩
theorem ZgX(hr:Zc h=true){t:HTx}(ht:ZU h.txs 0=some t):False:=by
 have h1:=ZdO (Zcg ht).1;have:=ZhX hr h1.1;omega
theorem Znv(hr:Zc h=true)(cnt:Int->Bool)(e:Edge):Zoh cnt h.txs h.ords e=if cnt e.key=true then ZH h e else 0:=by
 obtain⟨ef,et,ek,ey⟩:=e;unfold Zoh;have fK:=Zpr (h:=h)
 by_cases k1:ek=1
 ·subst k1;rw[ZcA (h:=h) cnt _ _ _ _ (fun u _ o _=>by rw[fK,if_neg (fun hh=>by have:=congrArg Edge.k hh.2.2;simp at this),if_neg (fun hh=>by have:=congrArg Edge.k hh.2.2;simp at this)])];unfold Zbv;rw[Nat.add_zero]
  by_cases hc:cnt ey=true
  ·rw[if_pos hc]
   by_cases hm:(⟨ef,et,1,ey⟩:Edge)∈wwL cnt h.ords
   ·rw[if_pos hm];obtain⟨_,_,h0,hx⟩:=(Zet cnt _ hr).1 hm;simp only at h0 hx;obtain⟨⟨t,ht⟩,h2,h3,h4⟩:=Nx.ids hr hx;obtain⟨a,ha⟩:=h4.resolve_left h0;unfold ZH;simp only[ha,ht,if_neg h3,if_true,(Zdi hr ey ef et).2 hx]
   ·rw[if_neg hm]
    symm
    unfold ZH
    cases ha:ZU h.txs ef with
    |none=>rfl
    |some a=>
     cases hb:ZU h.txs et with
     |none=>rfl
     |some b=>
      simp only
      split
      ·rfl
      ·simp only[if_true];rw[if_neg];intro hn;have hx:=(Zdi hr ey ef et).1 hn;refine hm ((Zet cnt _ hr).2 ⟨rfl,hc,fun e0=>?_,hx⟩);simp only at e0;subst e0;exact ZgX hr ha
  ·rw[if_neg hc,if_neg (fun hm=>hc ((Zet cnt _ hr).1 hm).2.1)]
 ·have hw:Zbv (wwL cnt h.ords) ⟨ef,et,ek,ey⟩=0:=by
   unfold Zbv;rw[if_neg (fun hm=>k1 ((Zet cnt _ hr).1 hm).1)]
  rw[hw,Nat.zero_add]
  by_cases k2:ek=2
  ·subst k2
   have hz:∀u∈h.txs.filter (·.done),u.id≠et->∀o∈u.ops,ZA (Z4 (ZW h.txs) (Zo h.txs) (ZK h.ords) u.id o) (⟨ef,et,2,ey⟩:Edge)=0:=fun u _ hne o _=>by
    rw[fK,if_neg (fun hh=>hne (congrArg Edge.t hh.2.2).symm),if_neg (fun hh=>by have:=congrArg Edge.k hh.2.2;simp at this)]
   cases hb:ZU h.txs et with
   |none=>
    rw[ZcA (h:=h) cnt _ _ _ _ (fun u hu o ho=>hz u hu (fun e=>by
     have:=(ZeP hr et).1 (by unfold ZW;exact Gc.2 ⟨u,hu,e⟩);rw[hb]at this;obtain⟨_,h9⟩:=this
     cases h9) o ho)]
    unfold ZH;simp only[hb]
    cases ZU h.txs ef<;>simp
   |some b=>
    obtain⟨hbm,gy⟩:=Zea hb;have dB:∀u∈h.txs.filter (·.done),u.id≠b.id->∀o∈u.ops,ZA (Z4 (ZW h.txs) (Zo h.txs) (ZK h.ords) u.id o) (⟨ef,et,2,ey⟩:Edge)=0:=fun u hu hne=>hz u hu (by rw[<-gy];exact hne)
    cases ha:ZU h.txs ef with
    |none=>
     rw[ZcA (h:=h) cnt _ _ _ _ (fun u hu o ho=>by
      rw[fK,if_neg (c:=_∧o.tx≠0∧_),if_neg (fun hh=>by have:=congrArg Edge.k hh.2.2;simp at this)];rintro⟨⟨_,h3⟩,h4,h5⟩;rcases h3 with h3|h3
      ·exact h4 h3
      ·obtain⟨_,h6⟩:=(ZeP hr _).1 h3.1;have e1:=congrArg Edge.f h5;simp only at e1;rw[<-e1,ha]at h6
       cases h6)]
     unfold ZH;simp[ha]
    |some a=>
     by_cases hft:ef=et
     ·rw[ZcA (h:=h) cnt _ _ _ _ (fun u hu o ho=>by
       rw[fK,if_neg (c:=_∧o.tx≠0∧_),if_neg (fun hh=>by have:=congrArg Edge.k hh.2.2;simp at this)];rintro⟨⟨h3,_⟩,h4,h5⟩;have e1:=congrArg Edge.f h5;have e2:=congrArg Edge.t h5;simp only at e1 e2;exact h3 (by rw[<-e1,<-e2,hft]))]
      unfold ZH;simp[hb,hft]
     ·by_cases hc:cnt ey=true
      ·rw[if_pos hc,Zhi (h:=h) hr cnt _ _ _ _ hbm dB (p2 ef ey (Zd a.ops ey)) (fun o ho=>?_)]
       ·unfold ZH;simp only[ha,hb,if_neg hft];rfl
       ·rw[fK,if_neg (c:=_∧(_∧_)∧_) (fun hh=>by have:=congrArg Edge.k hh.2.2;simp at this),Nat.add_zero]
        by_cases hp:p2 ef ey (Zd a.ops ey) o=true
        ·rw[if_pos hp];unfold p2 at hp;simp only[Fp,beq_iff_eq]at hp;obtain⟨⟨⟨q1,q2⟩,q3⟩,q4⟩:=hp;rw[if_pos (by rw[q1,q2,hc];rfl),if_pos];refine⟨⟨by rw[q3,gy];exact hft,Or.inr ⟨by rw[q3];exact(ZeP hr _).2 ⟨a,ha⟩,?_⟩⟩,fun e0=>?_,by rw[q3,q2,gy]⟩
         ·rw[q3,q2,ZfD hr ha];exact q4.symm
         ·rw[q3]at e0;subst e0;exact ZgX hr ha
        ·rw[if_neg hp]
         split
         ·rename_i hrd
          rw[if_neg];rintro⟨⟨h3,h4⟩,h5,h6⟩;have e1:=congrArg Edge.f h6;have e2:=congrArg Edge.key h6;simp only at e1 e2
          apply hp
          unfold p2;rcases h4 with h4|⟨h4,h7⟩
          ·exact absurd h4 h5
          ·rw[<-e1,<-e2,ZfD hr ha]at h7;rw[Fp]at hrd;simp[hrd.1,<-e1,<-e2,h7]
         ·rfl
      ·rw[if_neg hc,Zhi (h:=h) hr cnt _ _ _ _ hbm dB (fun _=>false) (fun o ho=>by
        by_cases hq:(o.read&&cnt o.key)=true
        ·rw[if_pos hq,fK,if_neg,if_neg (fun hh=>by have:=congrArg Edge.k hh.2.2;simp at this)]
         ·rfl
         ·rintro⟨_,_,h6⟩;have e2:=congrArg Edge.key h6;simp only at e2;rw[Fp,<-e2]at hq;exact hc hq.2
        ·rw[if_neg hq];rfl)]
       simp
  ·by_cases k3:ek=3
   ·subst k3
    have hz:∀u∈h.txs.filter (·.done),u.id≠ef->∀o∈u.ops,ZA (Z4 (ZW h.txs) (Zo h.txs) (ZK h.ords) u.id o) (⟨ef,et,3,ey⟩:Edge)=0:=fun u _ hne o _=>by
     rw[fK,if_neg (c:=_∧o.tx≠0∧_) (fun hh=>by have:=congrArg Edge.k hh.2.2;simp at this),if_neg (fun hh=>hne (congrArg Edge.f hh.2.2).symm)]
    cases ha:ZU h.txs ef with
    |none=>
     rw[ZcA (h:=h) cnt _ _ _ _ (fun u hu o ho=>hz u hu (fun e=>by
      have:=(ZeP hr ef).1 (by unfold ZW;exact Gc.2 ⟨u,hu,e⟩);rw[ha]at this;obtain⟨_,h9⟩:=this
      cases h9) o ho)]
     unfold ZH;simp[ha]
    |some a=>
     obtain⟨zy,qo⟩:=Zea ha;have dB:∀u∈h.txs.filter (·.done),u.id≠a.id->∀o∈u.ops,ZA (Z4 (ZW h.txs) (Zo h.txs) (ZK h.ords) u.id o) (⟨ef,et,3,ey⟩:Edge)=0:=fun u hu hne=>hz u hu (by rw[<-qo];exact hne)
     cases hb:ZU h.txs et with
     |none=>
      rw[ZcA (h:=h) cnt _ _ _ _ (fun u hu o ho=>by
       rw[fK,if_neg (c:=_∧o.tx≠0∧_) (fun hh=>by have:=congrArg Edge.k hh.2.2;simp at this),if_neg];rintro⟨_,⟨h3,h4⟩,h5⟩;have e1:=congrArg Edge.t h5;simp only at e1;rcases Zno hr o.key o.tx with h6|h6
       ·exact h3 h6.1
       ·obtain⟨⟨_,h7⟩,_⟩:=Nx.ids hr h6;rw[<-e1,hb]at h7
        cases h7)]
      unfold ZH;simp[ha,hb]
     |some b=>
      by_cases hft:ef=et
      ·rw[ZcA (h:=h) cnt _ _ _ _ (fun u hu o ho=>by
        rw[fK,if_neg (c:=_∧o.tx≠0∧_) (fun hh=>by have:=congrArg Edge.k hh.2.2;simp at this),if_neg];rintro⟨_,⟨h3,h4⟩,h5⟩;have e1:=congrArg Edge.t h5;have e2:=congrArg Edge.f h5;simp only at e1 e2;exact h4 (by rw[<-e1,<-e2,hft]))]
       unfold ZH;simp[hb,hft]
      ·by_cases hc:cnt ey=true
       ·rw[if_pos hc,Zhi (h:=h) hr cnt _ _ _ _ zy dB (p3 h a.id ey et) (fun o ho=>?_)]
        ·unfold ZH;simp only[ha,hb,if_neg hft];rfl
        ·rw[fK,if_neg (c:=_∧o.tx≠0∧_) (fun hh=>by have:=congrArg Edge.k hh.2.2;simp at this),Nat.zero_add];have xm:et≠0:=fun e0=>by subst e0;exact ZgX hr hb
         by_cases hp:p3 h a.id ey et o=true
         ·rw[if_pos hp];unfold p3 at hp;simp only[Fp,beq_iff_eq,Bool.not_eq_true',beq_eq_false_iff_ne]at hp;obtain⟨⟨⟨⟨q1,q2⟩,q3⟩,q4⟩,q5⟩:=hp;have hl:=(Zl6 hr ey o.tx et xm).2 ((Zdi hr _ _ _).1 q5);rw[if_pos (by rw[q1,q2,hc];rfl),if_pos];refine⟨⟨q3,(Zi5 hr o).2 q4⟩,⟨by rw[q2,hl];exact xm,by rw[q2,hl,qo];exact fun e=>hft e.symm⟩,by rw[q2,hl,qo]⟩
         ·rw[if_neg hp]
          split
          ·rename_i hrd
           rw[if_neg];rintro⟨⟨h3,h4⟩,⟨h5,h6⟩,h7⟩;have e1:=congrArg Edge.t h7;have e2:=congrArg Edge.key h7;simp only at e1 e2
           apply hp
           unfold p3;rw[Fp]at hrd;have h8:=(Zi5 hr o).1 h4;have h9:Zc4 h.ords ey o.tx et=true:=(Zdi hr _ _ _).2 ((Zl6 hr ey o.tx et xm).1 (by rw[e2];exact e1.symm));simp[hrd.1,<-e2,h3,h9];rw[e2];exact h8
          ·rfl
       ·rw[if_neg hc,Zhi (h:=h) hr cnt _ _ _ _ zy dB (fun _=>false) (fun o ho=>by
         by_cases hq:(o.read&&cnt o.key)=true
         ·rw[if_pos hq,fK,if_neg (c:=_∧o.tx≠0∧_) (fun hh=>by have:=congrArg Edge.k hh.2.2;simp at this),if_neg]
          ·rfl
          ·rintro⟨_,_,h6⟩;have e2:=congrArg Edge.key h6;simp only at e2;rw[Fp,<-e2]at hq;exact hc hq.2
         ·rw[if_neg hq];rfl)]
        simp
   ·rw[ZcA (h:=h) cnt _ _ _ _ (fun u _ o _=>by rw[fK,if_neg (fun hh=>k2 (congrArg Edge.k hh.2.2)),if_neg (fun hh=>k3 (congrArg Edge.k hh.2.2))])];unfold ZH
    cases ZU h.txs ef<;>cases ZU h.txs et<;>simp[k1,k2,k3]
end
/- Edges of a history,the document's:all edges are walked. -/
theorem Zm9:∀(txs:List HTx),(∀t∈txs,t.ops.length<=24)->(txK txs).length<=24*txs.length
 |[],_=>by simp[txK]
 |x::l,h=>by
  have h1:=Zm9 l fun t ht=>h t (E7 _ ht)
  have h2:=h x (Fc ..);unfold txK at h1 ⊢;rw[List.flatMap_cons,Fb,Fs];unfold opK at h1 ⊢;rw[F6];omega
theorem ZmE(txs:List HTx)(h:∀t∈txs,t.ops.length<=24):(Zcr txs).length<=24*txs.length:=by
 have h1:=ZiI (txK txs) [];have h2:=Zm9 txs h;unfold Zcr;simp at h1;omega
/- Edges of a history,in plain words:the lists. -/
theorem Zln{s:List Edge}(h:s.Pairwise fun a b=>ltE a b=true):s.Nodup:=h.imp fun {a b} hab e=>by subst e;rw[Zhm]at hab;cases hab
theorem ZvA{g:Edge->Nat}{l:List Edge}(h:∀e,g e≠0->e∈l)(hl:l.length<=1000000):ZrP g:=fun mc hm=>by
 have h1:=hm.nd.length_le_of_subset (l₂:=l) fun a ha=>h a ((hm.mem a).1 ha)
 rw[F6]at h1;omega
section
variable {h:Hist}
theorem mem_hrB{a kind key:Int}{bs:List HTx}{x:Hvy}:x∈hrB h a kind key bs↔∃b∈bs,0<ZH h ⟨a,b.id,kind,key⟩∧x=⟨⟨a,b.id,kind,key⟩,(ZH h ⟨a,b.id,kind,key⟩:Int)⟩:=by
 unfold hrB;rw[List.mem_flatMap]
 constructor
 ·rintro⟨b,hb,hx⟩
  split at hx
  ·rename_i hp;exact⟨b,hb,hp,by simpa using hx⟩
  ·cases hx
 ·rintro⟨b,hb,hp,rfl⟩;exact⟨b,hb,by rw[if_pos hp];simp⟩
theorem mem_hrK{a kind:Int}{ks:Gv}{x:Hvy}:x∈hrK h a kind ks↔∃key∈ks,∃b∈h.txs,0<ZH h ⟨a,b.id,kind,key⟩∧x=⟨⟨a,b.id,kind,key⟩,(ZH h ⟨a,b.id,kind,key⟩:Int)⟩:=by
 unfold hrK;rw[List.mem_flatMap];simp only[mem_hrB]
theorem ZrG(a:Int):hrN h a 3=hrK h a 1 (Zcr h.txs)++hrK h a 2 (Zcr h.txs)++hrK h a 3 (Zcr h.txs):=rfl
theorem mem_hrA{ts:List HTx}{x:Hvy}:x∈hrA h ts↔∃t∈ts,∃kind,(kind=1∨kind=2∨kind=3)∧x∈hrK h t.id kind (Zcr h.txs):=by
 unfold hrA;rw[List.mem_flatMap];simp only[ZrG,Fu]
 constructor
 ·rintro⟨t,ht,(h1|h1)|h1⟩
  ·exact⟨t,ht,1,Or.inl rfl,h1⟩
  ·exact⟨t,ht,2,Or.inr (Or.inl rfl),h1⟩
  ·exact⟨t,ht,3,Or.inr (Or.inr rfl),h1⟩
 ·rintro⟨t,ht,kind,rfl|rfl|rfl,h1⟩
  ·exact⟨t,ht,Or.inl (Or.inl h1)⟩
  ·exact⟨t,ht,Or.inl (Or.inr h1)⟩
  ·exact⟨t,ht,Or.inr h1⟩
theorem Zjb{a kind key:Int}:∀{bs:List HTx},(bs.map (·.id)).Pairwise (·<·)->((hrB h a kind key bs).map (·.e)).Pairwise fun a b=>ltE a b=true
 |[],_=>List.Pairwise.nil
 |b::bs,hp=>by
  rw[Gb,Fd]at hp;have ih:=Zjb (a:=a) (kind:=kind) (key:=key) hp.2
  show((((if 0<ZH h ⟨a,b.id,kind,key⟩ then [_] else []):List Hvy)++hrB h a kind key bs).map (·.e)).Pairwise _
  rw[F4]
  split
  ·refine Fd.2 ⟨fun y hy=>?_,ih⟩;obtain⟨x,hx,rfl⟩:=Gc.1 hy;obtain⟨u,hu,_,rfl⟩:=mem_hrB.1 hx;have:=hp.1 u.id (Gc.2 ⟨u,hu,rfl⟩);exact(Zb3 _ _).2 (Or.inr ⟨rfl,Or.inr ⟨rfl,Or.inr ⟨rfl,this⟩⟩⟩)
  ·exact ih
theorem Zja(hr:(h.txs.map (·.id)).Pairwise (·<·)){a kind:Int}:∀{ks:Gv},ks.Pairwise (·<·)->((hrK h a kind ks).map (·.e)).Pairwise fun a b=>ltE a b=true
 |[],_=>List.Pairwise.nil
 |k::ks,hp=>by
  rw[Fd]at hp;have ih:=Zja hr (a:=a) (kind:=kind) hp.2
  show((hrB h a kind k h.txs++hrK h a kind ks).map (·.e)).Pairwise _
  rw[F4,E5];refine⟨Zjb hr,ih,fun y hy z hz=>?_⟩;obtain⟨x,hx,rfl⟩:=Gc.1 hy;obtain⟨v,hv,rfl⟩:=Gc.1 hz;obtain⟨u,hu,_,rfl⟩:=mem_hrB.1 hx;obtain⟨k2,hk2,u2,hu2,_,rfl⟩:=mem_hrK.1 hv;have:=hp.1 k2 hk2;exact(Zb3 _ _).2 (Or.inr ⟨rfl,Or.inr ⟨rfl,Or.inl this⟩⟩)
theorem ZtF(txs:List HTx):(Zcr txs).Pairwise (·<·):=ZgE _ _ List.Pairwise.nil
theorem Zjc(hr:(h.txs.map (·.id)).Pairwise (·<·)):∀{ts:List HTx},(ts.map (·.id)).Pairwise (·<·)->((hrA h ts).map (·.e)).Pairwise fun a b=>ltE a b=true
 |[],_=>List.Pairwise.nil
 |t::ts,hp=>by
  rw[Gb,Fd]at hp;have ih:=Zjc hr hp.2
  show((hrN h t.id 3++hrA h ts).map (·.e)).Pairwise _
  have bG:=fun kind=>Zja hr (a:=t.id) (kind:=kind) (ZtF h.txs)
  rw[ZrG,F4,F4,F4,E5,E5,E5];refine⟨⟨⟨bG 1,bG 2,fun y hy z hz=>?_⟩,bG 3,fun y hy z hz=>?_⟩,ih,fun y hy z hz=>?_⟩
  ·obtain⟨x,hx,rfl⟩:=Gc.1 hy;obtain⟨v,hv,rfl⟩:=Gc.1 hz;obtain⟨k2,_,u,_,_,rfl⟩:=mem_hrK.1 hx;obtain⟨k3,_,u3,_,_,rfl⟩:=mem_hrK.1 hv;exact(Zb3 _ _).2 (Or.inr ⟨rfl,Or.inl (show(1:Int)<2 by decide)⟩)
  ·obtain⟨v,hv,rfl⟩:=Gc.1 hz;obtain⟨k3,_,u3,_,_,rfl⟩:=mem_hrK.1 hv;rcases Fu.1 hy with hy|hy
   ·obtain⟨x,hx,rfl⟩:=Gc.1 hy;obtain⟨k2,_,u,_,_,rfl⟩:=mem_hrK.1 hx;exact(Zb3 _ _).2 (Or.inr ⟨rfl,Or.inl (show(1:Int)<3 by decide)⟩)
   ·obtain⟨x,hx,rfl⟩:=Gc.1 hy;obtain⟨k2,_,u,_,_,rfl⟩:=mem_hrK.1 hx;exact(Zb3 _ _).2 (Or.inr ⟨rfl,Or.inl (show(2:Int)<3 by decide)⟩)
  ·obtain⟨v,hv,rfl⟩:=Gc.1 hz;obtain⟨t2,oS,kind,_,a7⟩:=mem_hrA.1 hv;obtain⟨k3,_,u3,_,_,rfl⟩:=mem_hrK.1 a7;have:=hp.1 t2.id (Gc.2 ⟨t2,oS,rfl⟩)
   have fW:y.f=t.id:=by
    rcases Fu.1 hy with hy|hy
    ·rcases Fu.1 hy with hy|hy
     ·obtain⟨x,hx,rfl⟩:=Gc.1 hy;obtain⟨k2,_,u,_,_,rfl⟩:=mem_hrK.1 hx;rfl
     ·obtain⟨x,hx,rfl⟩:=Gc.1 hy;obtain⟨k2,_,u,_,_,rfl⟩:=mem_hrK.1 hx;rfl
    ·obtain⟨x,hx,rfl⟩:=Gc.1 hy;obtain⟨k2,_,u,_,_,rfl⟩:=mem_hrK.1 hx;rfl
   exact(Zb3 _ _).2 (Or.inl (by rw[fW];exact this))
theorem Zrx(txs:List HTx)(key:Int):key∈Zcr txs↔∃t∈txs,∃o∈t.ops,o.key=key:=by
 unfold Zcr txK opK;rw[ZfY,List.mem_flatMap];simp only[Gc,Ft,false_or]
theorem Zqn(hr:Zc h=true){e:Edge}(hc:ZH h e≠0):(∃a∈h.txs,a.id=e.f)∧(∃b∈h.txs,b.id=e.t)∧(e.k=1∨e.k=2∨e.k=3)∧e.key∈Zcr h.txs:=by
 unfold ZH at hc
 cases ha:ZU h.txs e.f with
 |none=>rw[ha]at hc;exact absurd rfl hc
 |some a=>
  cases hb:ZU h.txs e.t with
  |none=>rw[ha,hb]at hc;exact absurd rfl hc
  |some b=>
   rw[ha,hb]at hc;simp only at hc;obtain⟨zQ,Cu⟩:=ZdO (Zcg ha).1;obtain⟨hb1,hb2⟩:=ZdO (Zcg hb).1;refine⟨⟨a,zQ,Cu⟩,⟨b,hb1,hb2⟩,?_⟩;rw[Zrx]
   split at hc
   ·exact absurd rfl hc
   ·split at hc
    ·rename_i hk
     refine⟨Or.inl hk,?_⟩
     split at hc
     ·rename_i hn
      obtain⟨o,ho,aC,i,hi,hy⟩:=(Zdi hr _ _ _).1 hn;have hw:=(ZcK hr ho).mem_iff.1 (E6 hy);unfold Zm at hw;obtain⟨t,ht,_⟩:=Gc.1 hw;rw[Fw,Fp,List.contains_iff_mem]at ht;have hk2:=ht.2.2;unfold Zaz at hk2;rw[Zcc]at hk2;unfold ZaK at hk2;obtain⟨op,zW,wi⟩:=Gc.1 hk2;rw[Fw]at zW;exact⟨t,ht.1,op,zW.1,wi.trans aC⟩
     ·exact absurd rfl hc
    ·split at hc
     ·rename_i hk
      refine⟨Or.inr (Or.inl hk),?_⟩;obtain⟨o,ho,hp⟩:=List.countP_pos_iff.1 (Nat.pos_of_ne_zero hc);unfold p2 at hp;simp only[Fp,beq_iff_eq]at hp;exact⟨b,hb1,o,ho,hp.1.1.2⟩
     ·split at hc
      ·rename_i hk
       refine⟨Or.inr (Or.inr hk),?_⟩;obtain⟨o,ho,hp⟩:=List.countP_pos_iff.1 (Nat.pos_of_ne_zero hc);unfold p3 at hp;simp only[Fp,beq_iff_eq]at hp;exact⟨a,zQ,o,ho,hp.1.1.1.2⟩
      ·exact absurd rfl hc
theorem Zce(hr:Zc h=true){x:Hvy}:x∈ZB h↔ZH h x.e≠0∧x.n=(ZH h x.e:Int):=by
 unfold ZB;rw[if_pos hr,mem_hrA]
 constructor
 ·rintro⟨t,_,kind,_,hx⟩;obtain⟨key,_,b,_,h1,rfl⟩:=mem_hrK.1 hx;exact⟨by simp only;omega,rfl⟩
 ·rintro⟨h1,h2⟩;obtain⟨⟨a,ha,AM⟩,⟨b,hb,Bg⟩,hk,hkey⟩:=Zqn hr h1;refine⟨a,ha,x.e.k,hk,mem_hrK.2 ⟨x.e.key,hkey,b,hb,?_⟩⟩;obtain⟨⟨ef,et,ek,ey⟩,n⟩:=x;simp only at*;subst AM Bg h2;exact⟨by omega,rfl⟩
theorem Zgt:((ZB h).map (·.e)).Pairwise fun a b=>ltE a b=true:=by
 unfold ZB
 split
 ·rename_i hr;exact Zjc (Zep hr) (Zep hr)
 ·exact List.Pairwise.nil
theorem ZjM(cnt:Int->Bool)(e:Edge):Zeh cnt h e=if Zc h=true then (if cnt e.key=true then ZH h e else 0) else 0:=by
 unfold Zeh
 split
 ·rename_i hr;exact Znv hr cnt e
 ·rfl
theorem Zns(a kind key:Int):∀bs:List HTx,(hrB h a kind key bs).length<=bs.length
 |[]=>Nat.le_refl _
 |b::bs=>by
  have:=Zns a kind key bs
  show((((if 0<ZH h ⟨a,b.id,kind,key⟩ then [_] else []):List Hvy)++hrB h a kind key bs)).length<=_
  rw[Fb,Fs]
  split<;>simp<;>omega
theorem Zhp(a kind:Int)(n:h.txs.length<=12):∀ks:Gv,(hrK h a kind ks).length<=12*ks.length
 |[]=>Nat.le_refl _
 |k::ks=>by
  have h1:=Zhp a kind n ks;have h2:=Zns (h:=h) a kind k h.txs
  show(hrB h a kind k h.txs++hrK h a kind ks).length<=_
  rw[Fb,Fs];omega
theorem Znt(n:h.txs.length<=12)(n2:(Zcr h.txs).length<=288):∀ts:List HTx,(hrA h ts).length<=10368*ts.length
 |[]=>Nat.le_refl _
 |t::ts=>by
  have h1:=Znt n n2 ts;have h2:=Zhp (h:=h) t.id 1 n (Zcr h.txs);have h3:=Zhp (h:=h) t.id 2 n (Zcr h.txs);have h4:=Zhp (h:=h) t.id 3 n (Zcr h.txs)
  show(hrN h t.id 3++hrA h ts).length<=_
  rw[ZrG,Fb,Fb,Fb,Fs];omega
theorem Zoo(n:h.txs.length<=12)(n2:∀t∈h.txs,t.ops.length<=24):(ZB h).length<=200000:=by
 unfold ZB
 split
 ·have h1:=ZmE h.txs n2;have:=Znt n (by omega) h.txs;omega
 ·simp
theorem Ztq(n:h.txs.length<=12)(n2:∀t∈h.txs,t.ops.length<=24)(cnt:Int->Bool):ZrP (Zeh cnt h):=by
 refine ZvA (l:=(ZB h).map (·.e)) (fun e hg=>?_) (by rw[F6];have:=Zoo n n2;omega);rw[ZjM]at hg
 by_cases hr:Zc h=true
 ·rw[if_pos hr]at hg
  by_cases hc:cnt e.key=true
  ·rw[if_pos hc]at hg;exact Gc.2 ⟨⟨e,(ZH h e:Int)⟩,(Zce hr).2 ⟨hg,rfl⟩,rfl⟩
  ·rw[if_neg hc]at hg;exact absurd rfl hg
 ·rw[if_neg hr]at hg;exact absurd rfl hg
end
/- Edges of a history:the example's history. -/
def s1:Hvy:=⟨⟨1,2,1,5⟩,1⟩
def s2:Hvy:=⟨⟨1,2,2,5⟩,1⟩
def s3:Hvy:=⟨⟨3,1,3,5⟩,2⟩
section
variable (n:Nat)
end
/- Edges of a history:the answers that the document gives. -/
def HvX(w:Gy)(A:OA)(l:List Hvy):Prop:=∃G,Hvys G w A l
theorem HvX.upd{w w':Gy}{A:OA}{l:List Hvy}(h:HvX w A l)(k:Upd No w w'):HvX w' A l:=by
 obtain⟨G,h⟩:=h;exact⟨G,Hvys.upd h k Qo⟩
theorem HvX.own{w:Gy}{b c:Nat}{A:OA}{l:List Hvy}(h:w.ownsRow b 96 5 (.slice A l.length c) l.length (Zef l)):HvX w A l:=⟨_,Recs.of_own Ztf (by omega) h⟩
def EdX(w:Gy)(A:OA)(l:List Edge):Prop:=∃G,Walk G w A l
theorem EdX.upd{w w':Gy}{A:OA}{l:List Edge}(h:EdX w A l)(k:Upd No w w'):EdX w' A l:=by
 obtain⟨G,h⟩:=h;exact⟨G,Recs.upd h k Qo⟩
section
variable {F:Gt} {w:Gy} {txs:List HTx} {ords:Gq} {A:OA} {c:Nat} {B:OA} {d:Nat} {n m:Nat}
end
/- Edges of a history:the law that what is told is what the document says. -/
theorem Zdl{h:Hist}(hl:ZE h=true):h.txs.length<=12∧∀t∈h.txs,t.ops.length<=24:=by
 unfold ZE at hl;simp only[Fp,Ff,Fn]at hl;exact⟨hl.1.1.1,fun t ht=>hl.1.2 t ht⟩
section
variable {F:Gt} {w:Gy} {txs:List HTx} {ords:Gq} {A:OA} {c:Nat} {B:OA} {d:Nat} {n m:Nat}
end
