/- Witnesses, plain: there is one just if the history has the phenomenon; it is right, and none that is right is ahead of it. -/
import Derived.Test.YtonblekdfinpkaaGreatWtbi
import Derived.Test.YtonblekdfinpkaaGreatWtbl
import Derived.Test.YtonblekdfinpkaaGreatWtbx
import Derived.Test.YtonblekdfinpkaaGreatWtbz
import Derived.Test.YtonblekdfinpkaaGreatWtca
namespace Go.Proofs.YtonblekdfinpkaaGreat
set_option linter.unusedVariables false
set_option linter.unusedSimpArgs false
section
section
variable {h:Hist}
theorem mem_pl {e:Edge}:e∈ZV (ZF h)↔(Zb h&&Zbf h e)=true:=by
 unfold ZV;rw[List.mem_map,Bool.and_eq_true]
 constructor
 ·rintro⟨x,hx,rfl⟩;have hr:=ZlL hx;refine⟨hr,?_⟩;rw[←ZhD hr];exact decide_eq_true (Nat.pos_of_ne_zero ((ZbJ hr).1 hx).1)
 ·rintro⟨hr,he⟩;rw[←ZhD hr,decide_eq_true_eq]at he;exact⟨⟨e,(Zam h e:Int)⟩,(ZbJ hr).2 ⟨by simp only;omega,rfl⟩,rfl⟩
theorem Zk9 (hl:ZG h=true):(ZV (ZF h)).length≤1152:=by unfold ZV;rw[List.length_map];exact ZeK hl
theorem ZhF:∀(txs:List HTx) (p:Int) (t:HTx) (l:List HOp) (i:Nat) (acc:List HBad),(acc.Pairwise fun a b=>Za2 b a=false)→(∀a∈acc,a.tx<t.id∨(a.tx=t.id∧a.place<(i:Int)))→((Zbh txs p t i acc l).Pairwise fun a b=>Za2 b a=false)∧∀a∈Zbh txs p t i acc l,a.tx<t.id∨a.tx=t.id
 |_,_,_,[],_,_,h1,h2=>⟨h1,fun a ha=>(h2 a ha).elim Or.inl fun h=>Or.inr h.1⟩
 |txs,p,t,o::l,i,acc,h1,h2=>by
  unfold Zbh
  split
  ·refine ZhF txs p t l (i+1) _ ?_ ?_
   ·rw[List.pairwise_append];refine⟨h1,List.pairwise_singleton _ _,fun a ha b hb=> ?_⟩;rw[List.mem_singleton.1 hb];unfold Za2;rcases h2 a ha with h|⟨h,h3⟩
    ·rw[if_pos (by simp only;omega)];exact decide_eq_false (by simp only;omega)
    ·rw[if_neg (by simp only;omega),if_pos (by simp only;omega)];exact decide_eq_false (by simp only;omega)
   ·intro a ha;rcases List.mem_append.1 ha with ha|ha
    ·rcases h2 a ha with h|⟨h,h3⟩
     ·exact Or.inl h
     ·exact Or.inr ⟨h,by omega⟩
    ·rw[List.mem_singleton.1 ha];exact Or.inr ⟨rfl,by simp only;omega⟩
  ·exact ZhF txs p t l (i+1) acc h1 fun a ha=>(h2 a ha).elim Or.inl fun h=>Or.inr ⟨h.1,by omega⟩
theorem Zko (txs:List HTx) (p:Int):∀(l:List HTx) (acc:List HBad),(l.map (·.id)).Pairwise (·<·)→(acc.Pairwise fun a b=>Za2 b a=false)→(∀a∈acc,∀t∈l,a.tx<t.id)→(Zb8 txs p acc l).Pairwise fun a b=>Za2 b a=false
 |[],_,_,h1,_=>h1
 |t::l,acc,hn,h1,h2=>by
  unfold Zb8;rw[List.map_cons,List.pairwise_cons]at hn;obtain⟨k1,k2⟩:=ZhF txs p t t.ops 0 acc h1 fun a ha=>Or.inl (h2 a ha t (List.mem_cons_self ..))
  refine Zko txs p l _ hn.2 k1 fun a ha u hu=> ?_
  have h3:=hn.1 u.id (List.mem_map.2 ⟨u,hu,rfl⟩);rcases k2 a ha with h|h<;>omega
theorem Zgr {p:Int} {b:HBad} {l:List HBad} (hb:ZC h p=b::l) (a:HBad) (ha:a∈ZC h p):Za2 a b=false:=by
 have hr:Zb h=true:=by
  cases hq:Zb h with
  |true=>rfl
  |false=>unfold ZC at hb;rw[hq]at hb;cases hb
 have hs:=Zko h.txs p h.txs [] (Zc7 hr) List.Pairwise.nil (fun a ha=>by cases ha);have he:Zb8 h.txs p [] h.txs=b::l:=by unfold ZC at hb;rw[if_pos hr]at hb;exact hb
 rw[he,List.pairwise_cons]at hs;rw[hb]at ha;rcases List.mem_cons.1 ha with rfl|ha
 ·unfold Za2;simp
 ·exact hs.1 a ha
theorem ZqK (p:Int):Zac (ZaJ p)= !(ZaJ p==0):=by
 unfold ZaJ
 split
 ·rfl
 ·rfl
theorem ZnG {l:List Edge} (hk:∀e∈l,1≤e.k∧e.k≤3) (hc:Zae l=true) (p:Int):Zdk (Zba l) p=ZeI l (Zal p) (ZaJ p):=by
 have h1:(bits .andNot .i64 (Zba l) (Zal p)==0)=l.all fun e=>Zo (Zal p) e.k:=by
  unfold Zba;rw[Zmp,Bool.eq_iff_iff,Bool.not_eq_true',List.all_eq_true];simp only[Bool.or_eq_false_iff,Bool.and_eq_false_iff,Bool.not_eq_false']
  constructor
  ·rintro⟨g1,g2,g3⟩ e he;obtain⟨k1,k2⟩:=hk e he;unfold Zo;rw[decide_eq_true k1,decide_eq_true k2,Bool.true_and,Bool.true_and];rcases(show e.k=1∨e.k=2∨e.k=3 by omega)with hq|hq|hq
   ·rw[hq];exact g1.resolve_left fun g=>by rw[hasK_iff.2 ⟨e,he,hq⟩]at g;cases g
   ·rw[hq];exact g2.resolve_left fun g=>by rw[hasK_iff.2 ⟨e,he,hq⟩]at g;cases g
   ·rw[hq];exact g3.resolve_left fun g=>by rw[hasK_iff.2 ⟨e,he,hq⟩]at g;cases g
  ·intro g
   have key:∀k:Int,ZaP l l.length k=false∨Zd (Zal p) k=true:=by
    intro k
    cases hq:ZaP l l.length k with
    |false=>exact Or.inl rfl
    |true=>
     obtain⟨e,he,rfl⟩:=hasK_iff.1 hq;have:=g e he;unfold Zo at this;rw[Bool.and_eq_true,Bool.and_eq_true]at this;exact Or.inr this.2.2
   exact⟨key 1,key 2,key 3⟩
 unfold Zdk ZeI;rw[h1,hc,Bool.true_and,ZqK,Bool.not_not];rfl
theorem Zq8 {all d:List Edge} {mask must:Int} (hl:all.length≤100000) (hd:ZaG all mask must=d) (hne:d≠[]):ZeI d mask must=true∧Zae d=true∧∀e∈d,e∈all:=by
 have hs:=Zn0 (l:=all) (mask:=mask) (must:=must) hl;rw[hd]at hs;rcases hs with hs|hs
 ·have hc:=Zoz hs (List.length_pos_iff.2 hne);have hk:∀e∈d,1≤e.k∧e.k≤3:=fun e he=>⟨(hs.kind e he).1.1,(hs.kind e he).1.2.1⟩
  refine⟨?_,hc,fun e he=>(hs.kind e he).2⟩;unfold ZeI;rw[hc,Bool.true_and,Bool.and_eq_true,List.all_eq_true];refine⟨fun e he=> ?_,?_⟩
  ·obtain⟨k1,k2,k3⟩:=(hs.kind e he).1;unfold Zo;rw[decide_eq_true k1,decide_eq_true k2,k3];rfl
  ·cases hn:Zac must with
   |false=>rfl
   |true=>rw[Zlt hk,hs.has hn];rfl
 ·exact absurd hs hne
theorem Zia (hl:ZG h=true) (p:Int):(ofX h p).2=ZfB h p:=by
 unfold ofX ZfB
 split
 ·cases hb:ZC h p with
  |nil=>rfl
  |cons b l=>simp[Zcl]
 ·unfold Zb3;have hd:=ZoE (ZV (ZF h)) (Zal p) (ZaJ p) (by have:=Zk9 hl;omega)
  split
  ·rename_i hm;rw[hm,ZhW]
  ·split
   ·rename_i he
    cases hq:ZbR (ZV (ZF h)) (Zal p) (ZaJ p)with
    |false=>rfl
    |true=>exact absurd he (hd.1 hq)
   ·rename_i he
    exact(hd.2 he).symm
theorem Zio (a:HBad):Za2 a a=false:=by unfold Za2;simp
theorem Zk2 (hl:ZG h=true) {w:HWit} (hw:ZbX h w.p w.walk w.read=true):(ofX h w.p).2=true∧ZdW w (ofX h w.p).1=false:=by
 unfold ZbX at hw;rw[Bool.and_eq_true]at hw;obtain⟨hr,hw⟩:=hw;unfold ofX
 split at hw
 ·rename_i hp
  rw[if_pos hp];rw[Bool.and_eq_true,decide_eq_true_eq]at hw;have hm:(ZC h w.p).contains w.read=true:=by rw[ZtZ,hr,hw.2];rfl
  have hm2:w.read∈ZC h w.p:=by simpa using hm
  cases hb:ZC h w.p with
  |nil=>rw[hb]at hm2;cases hm2
  |cons b l=>
   refine⟨rfl,?_⟩;unfold ZdW Zcl;simp only;rw[if_pos (List.eq_nil_of_length_eq_zero hw.1)];exact Zgr hb _ hm2
 ·rename_i hp
  rw[if_neg hp];simp only[Bool.and_eq_true]at hw;obtain⟨⟨⟨⟨g1,g2⟩,g3⟩,g4⟩,g5⟩:=hw;have hm:¬Zal w.p=0:=by simpa using g1
  have hall:∀e∈w.walk,e∈ZV (ZF h):=fun e he=>mem_pl.2 (by rw[hr,List.all_eq_true.1 g5 e he];rfl)
  have hk:∀e∈w.walk,1≤e.k∧e.k≤3:=fun e he=>by
   have:=ZpB (List.all_eq_true.1 g5 e he);omega
  rw[ZnG hk g3]at g4;have hlen:(ZV (ZF h)).length≤100000:=by have:=Zk9 hl;omega
  unfold Zb3;rw[if_neg hm];obtain⟨d,hd⟩:∃d,ZaG (ZV (ZF h)) (Zal w.p) (ZaJ w.p)=d:=⟨_,rfl⟩;rw[hd]
  by_cases he:d=[]
  ·have:=ZnL hlen hall (hd.trans he);rw[g4]at this;cases this
  ·rw[if_neg he];refine⟨rfl,?_⟩;unfold ZdW;simp only;have hrd:w.read=Zcr:=by simpa using g2
   split
   ·rw[hrd];exact Zio _
   ·exact ZnM hlen hall hd (List.length_pos_iff.2 he) g4
end
end
/- Witnesses,plain:the witness of edges is the first of those of their components. -/
section
/-! walks in order -/
theorem Zpi (a:List Edge):Zb5 a a=false:=by
 unfold Zb5;rw[if_pos rfl]
 cases h:ZbZ a a with
 |false=>rfl
 |true=>
  exfalso
  have key:∀l:List Edge,¬ZbZ l l=true:=fun l=>by
   induction l with
   |nil=>simp[ZbZ]
   |cons x l ih=>
    rw[Zpf];rintro(h|h)
    ·rw[Zd3]at h;cases h
    ·exact ih h.2
  exact key a h
/-! components -/
theorem Zpg (p:Int) (a b:List Edge):ZdW ⟨p,a,Zcr⟩ ⟨p,b,Zcr⟩=Zb5 a b:=by
 unfold ZdW;simp only
 split
 ·rename_i h;rw[h,Zpi];exact Zio _
 ·rfl
end
/- Witnesses,plain:what is told of a history's witness,in its parts. -/
section
section
variable {h:Hist} {p:Int}
theorem Zss (hf:(ofX h p).2=false):(ofX h p).1=ZdN:=by
 unfold ofX at*
 split at hf
 ·rename_i hp
  rw[if_pos hp]
  cases hb:ZC h p with
  |nil=>rfl
  |cons b l=>rw[hb]at hf;cases hf
 ·rename_i hp
  rw[if_neg hp];unfold Zb3 at*
  split at hf
  ·rename_i hm;rw[if_pos hm]
  ·rename_i hm
   rw[if_neg hm]
   split at hf
   ·rename_i he;rw[if_pos he]
   ·cases hf
theorem ZmH (hp:p=2∨p=3) (ht:(ofX h p).2=true):∃b l,ZC h p=b::l∧ofX h p=(⟨p,[],b⟩,true):=by
 unfold ofX at*;rw[if_pos hp]at*
 cases hb:ZC h p with
 |nil=>rw[hb]at ht;cases ht
 |cons b l=>exact⟨b,l,rfl,rfl⟩
theorem Zsr (hl:ZG h=true) (hp:¬(p=2∨p=3)) (ht:(ofX h p).2=true):¬Zal p=0∧∃d,d≠[]∧ofX h p=(⟨p,d,Zcr⟩,true)∧Zae d=true∧∀e∈d,(Zb h&&Zbf h e)=true:=by
 unfold ofX at*;rw[if_neg hp]at*;unfold Zb3 at*
 split at ht
 ·cases ht
 ·rename_i hm
  rw[if_neg hm]
  split at ht
  ·cases ht
  ·rename_i he
   rw[if_neg he];obtain⟨d,hd⟩:∃d,ZaG (ZV (ZF h)) (Zal p) (ZaJ p)=d:=⟨_,rfl⟩;rw[hd]at he ⊢;obtain⟨_,h2,h3⟩:=Zq8 (by have:=Zk9 hl;omega) hd he;exact⟨hm,d,he,rfl,h2,fun e he=>mem_pl.1 (h3 e he)⟩
theorem Zo0 (hl:ZG h=true) (hp:¬(p=2∨p=3)) (hm:¬Zal p=0) {d o:List Edge} (hd:ofX h p=(⟨p,d,Zcr⟩,true)) (h1:Zae o=true) (h2:Zdk (Zba o) p=true) (h3:∀e∈o,(Zb h&&Zbf h e)=true):Zb5 o d=false:=by
 have hne:o≠[]:=fun e=>by rw[e]at h1;cases h1
 obtain⟨e0,he0⟩:=List.exists_mem_of_ne_nil o hne;have hr:Zb h=true:=by have:=h3 e0 he0;rw[Bool.and_eq_true]at this;exact this.1
 have hacc:ZbX h p o Zcr=true:=by
  unfold ZbX;rw[hr,if_neg hp,h1,h2,show o.all (Zbf h)=true from List.all_eq_true.2 fun e he=>by have:=h3 e he;rw[Bool.and_eq_true]at this;exact this.2];simp[hm]
 have:=(Zk2 (w:=⟨p,o,Zcr⟩) hl hacc).2;rw[hd]at this
 rwa [Zpg]at this
end
end
/- Witnesses:the law that they are what the document says:the walk. -/
section
open Go.RowKit
section
variable {w:World} {A B:Option Addr} {c d n m:Nat} {ap a0 a1 a2 a3 a4 bp b0 b1 b2 b3 b4:Int} {aw bw:List Edge} {v:Bool}
end
theorem Zon (l:List Edge) (p:Int) (hl:l.length≤2000):(Zb3 l p).1.walk.length≤2000:=by
 unfold Zb3
 split
 ·simp[ZdN]
 ·split
  ·simp[ZdN]
  ·rcases ZsR l (Zal p) (ZaJ p) (by omega)with h|h
   ·simp only;omega
   ·simp only;rw[h];simp
theorem ZoK (l:List HBad) (p:Int):(Zcl l p).1.walk.length≤2000:=by
 cases l<;>simp[Zcl,ZdN]
theorem Zst (h:Hist) (p:Int) (hl:ZG h=true):(ofX h p).1.walk.length≤2000:=by
 unfold ofX
 split
 ·exact ZoK _ _
 ·exact Zon _ _ (by unfold ZV;rw[List.length_map];have:=ZeK hl;omega)
end
/- Witnesses:the law that one is told just if the history has the phenomenon,and that none is ahead of it:the walk (WitnessThere). -/
section
open Go.RowKit
theorem Zkh {h:Hist} (e:Edge):decide (0<(ZdI h e:Int))=(Zb h&&Zbf h e):=by
 unfold ZdI
 split
 ·rename_i hr
  rw[hr,Bool.true_and,←ZhD hr,Bool.eq_iff_iff,decide_eq_true_eq,decide_eq_true_eq];omega
 ·rename_i hr
  have:Zb h=false:=by simpa using hr
  rw[this];rfl
theorem Zrc {h:Hist} {e:Edge} (he:(Zb h&&Zbf h e)=true):((ZdI h e:Int)==0)=false:=by
 rw[←Zkh,decide_eq_true_eq]at he;rw[beq_eq_false_iff_ne];omega
set_option maxRecDepth 100000 in
set_option maxHeartbeats 8000000 in
theorem Zr8 (F:Nat→Prop) (w:World) (txs:List HTx) (ords:List HOrd) (A:Option Addr) (c:Nat) (B:Option Addr) (d:Nat) (p:Int) (E:Option Addr) (ec:Nat) (o:List Edge) (bx bp bt bk bn:Int)
  (H:Hist.lies F w ⟨txs,ords,A,c,B,d⟩) (HE:EdX w E o) (hlo:o.length≤4398046511103) (L:Hid (∀w,Calls Tryz.prog 9 #[] w fun e w'=>e= .returned (.bool true)∧Upd No w w')):
  Calls Tryz.prog 4 #[.agg #[.slice A txs.length c,.slice B ords.length d],.int .i64 p,.slice E o.length ec,.agg #[.int .i64 bx,.int .i64 bp,.int .i64 bt,.int .i64 bk,.int .i64 bn]] w fun e w'=>e= .returned (.bool true)∧Upd No w w':=by
 obtain⟨z,hz⟩:∃z,w.heap.size=z:=⟨_,rfl⟩;obtain⟨w1,hw1⟩:∃w1,w.alloc (.cells #[.slice A txs.length c,.slice B ords.length d] 50)=w1:=⟨_,rfl⟩;have s1:w1.heap.size=z+1:=by rw[←hw1,←hz];simp
 obtain⟨wb,hwb⟩:∃wb,w1.alloc (.cells #[.int .i64 bx,.int .i64 bp,.int .i64 bt,.int .i64 bk,.int .i64 bn] 38)=wb:=⟨_,rfl⟩;have u1:Upd No w w1:=by rw[←hw1];exact(Upd.refl No w).alloc _
 have u2:Upd No w1 wb:=by rw[←hwb];exact(Upd.refl No w1).alloc _
 have k1:Blk w1 z 50 [.slice A txs.length c,.slice B ords.length d]:=by rw[←hw1,←hz];exact Blk.new w _ _
 have k2:Blk wb (z+1) 38 [.int .i64 bx,.int .i64 bp,.int .i64 bt,.int .i64 bk,.int .i64 bn]:=by rw[←hwb,←s1];exact Blk.new w1 _ _
 have h0:∀W,Upd No wb W→W.cell? ⟨z,0,none⟩=some (.slice A txs.length c):=fun W u=>(k1.upd (u2.trans u) id).cell 0
 have h1:∀W,Upd No wb W→W.cell? ⟨z,1,none⟩=some (.slice B ords.length d):=fun W u=>(k1.upd (u2.trans u) id).cell 1
 have c0:∀W,Upd No wb W→W.cell? ⟨z+1,0,none⟩=some (.int .i64 bx):=fun W u=>(k2.upd u id).cell 0
 have c1:∀W,Upd No wb W→W.cell? ⟨z+1,1,none⟩=some (.int .i64 bp):=fun W u=>(k2.upd u id).cell 1
 have c2:∀W,Upd No wb W→W.cell? ⟨z+1,2,none⟩=some (.int .i64 bt):=fun W u=>(k2.upd u id).cell 2
 have c3:∀W,Upd No wb W→W.cell? ⟨z+1,3,none⟩=some (.int .i64 bk):=fun W u=>(k2.upd u id).cell 3
 have c4:∀W,Upd No wb W→W.cell? ⟨z+1,4,none⟩=some (.int .i64 bn):=fun W u=>(k2.upd u id).cell 4
 have hr:Upd No wb wb:=Upd.refl _ _;have U0:=Qh (u1.trans u2);have GH:=Qh (H.upd U0.out (fun _ _=>id));have GE:=Qh (fun W (u:Upd No wb W)=>EdX.upd HE (U0.out.trans u));obtain⟨v,hv⟩:∃v,ZG ⟨txs,ords,A,c,B,d⟩=v:=⟨_,rfl⟩;have HV:=Qh hv;have CL:=Qh (fun W (u:Upd No wb W)=>ZsB (GH.out.upd u (fun _ _=>id)) hv);clear u1 u2 k1 k2 hv H HE
 cases v
 ·go_enter Tryz.func4,Tryz.ntmps4
  go_wp2_with fail
  refine(L.out _).mono ?_;rintro e w2 ⟨rfl,hu2⟩
  go_wp2_with fail
  refine(CL.out _ hu2).mono ?_;rintro e w3 ⟨rfl,hu3⟩;go_wp2
  go_ret
  exact⟨rfl,U0.out.trans (hu2.trans hu3)⟩
 by_cases g2:40<o.length
 ·have e2:decide ((40:Int)<(o.length:Int))=true:=decide_eq_true (by omega)
  go_enter Tryz.func4,Tryz.ntmps4
  go_wp2_with fail
  refine(L.out _).mono ?_;rintro e w2 ⟨rfl,hu2⟩
  go_wp2_with fail
  refine(CL.out _ hu2).mono ?_;rintro e w3 ⟨rfl,hu3⟩;go_wp2
  go_ret
  exact⟨rfl,U0.out.trans (hu2.trans hu3)⟩
 have e2:decide ((40:Int)<(o.length:Int))=false:=decide_eq_false (by omega);have G2:=Qh g2;have CO:=Qh (fun W (u:Upd No wb W) q=>wOf F W txs ords A c B d q (GH.out.upd u (fun _ _=>id)) HV.out);have CH:=Qh (fun W (u:Upd No wb W) q=>Zvo F W txs ords A c B d q (GH.out.upd u (fun _ _=>id)) HV.out);have HOL:=Qh (fun q=>Zst ⟨txs,ords,A,c,B,d⟩ q HV.out);clear g2
 cases hb:(ofX ⟨txs,ords,A,c,B,d⟩ p).2
 ·have hx:ofX ⟨txs,ords,A,c,B,d⟩ p=(⟨0,[],⟨0,0,⟨0,0,0⟩⟩⟩,false):=Prod.ext (Zss hb) hb;clear hb
  go_enter Tryz.func4,Tryz.ntmps4
  go_wp2_with fail
  refine(L.out _).mono ?_;rintro e w2 ⟨rfl,hu2⟩
  go_wp2_with fail
  refine(CL.out _ hu2).mono ?_;rintro e w3 ⟨rfl,hu3⟩;have hu23:=hu2.trans hu3;have C1:=Qh (CO.out _ hu23 p);have C2:=Qh (fun W (u:Upd No wb W)=>CH.out W u p);have HL:=Qh (HOL.out p);have Zbk:=Zia HV.out p;rw[hx]at C1 Zbk HL;simp only at Zbk;rw[←Zbk]at C2;clear hx Zbk hu2 hu3
  go_wp2_with fail
  refine C1.out.mono ?_;rintro e w5 hh;obtain⟨A5,c5,rfl,hx5,hu5⟩:=hh.part (n:=0) rfl rfl;obtain⟨y,hy⟩:∃y,w5.heap.size=y:=⟨_,rfl⟩;have u5:Upd No wb (w5.alloc (.cells #[.int .i64 0,.slice A5 0 c5,.int .i64 0,.int .i64 0,.int .i64 0,.int .i64 0,.int .i64 0] 40)):=(hu23.trans hu5).alloc _;have B5:=Qh (Blk.new w5 40 [.int .i64 0,.slice A5 0 c5,.int .i64 0,.int .i64 0,.int .i64 0,.int .i64 0,.int .i64 0]);have X5:=Qh (hx5.upd ((Upd.refl No w5).alloc (.cells #[.int .i64 0,.slice A5 0 c5,.int .i64 0,.int .i64 0,.int .i64 0,.int .i64 0,.int .i64 0] 40)));clear hh hx5 hu5 hu23 C1
  go_wp2_with fail
  obtain⟨wv,hwv⟩:∃wv,w5.alloc (.cells #[.int .i64 0,.slice A5 0 c5,.int .i64 0,.int .i64 0,.int .i64 0,.int .i64 0,.int .i64 0] 40)=wv:=⟨_,rfl⟩;rw[hwv]at B5 X5 u5 ⊢;clear hwv;rw[hy]at B5;have bv:=B5.out;have m0:∀W,Upd No wv W→W.cell? ⟨y,0,none⟩=some (.int .i64 0):=fun W u=>(bv.upd u id).cell 0
  have m1:∀W,Upd No wv W→W.cell? ⟨y,1,none⟩=some (.slice A5 0 c5):=fun W u=>(bv.upd u id).cell 1
  have m2:∀W,Upd No wv W→W.cell? ⟨y,2,none⟩=some (.int .i64 0):=fun W u=>(bv.upd u id).cell 2
  have m3:∀W,Upd No wv W→W.cell? ⟨y,3,none⟩=some (.int .i64 0):=fun W u=>(bv.upd u id).cell 3
  have m4:∀W,Upd No wv W→W.cell? ⟨y,4,none⟩=some (.int .i64 0):=fun W u=>(bv.upd u id).cell 4
  have m5:∀W,Upd No wv W→W.cell? ⟨y,5,none⟩=some (.int .i64 0):=fun W u=>(bv.upd u id).cell 5
  have m6:∀W,Upd No wv W→W.cell? ⟨y,6,none⟩=some (.int .i64 0):=fun W u=>(bv.upd u id).cell 6
  have UV:=Qh u5;have hvv:Upd No wv wv:=Upd.refl _ _;have g0:∀W,Upd No wv W→W.cell? ⟨z,0,none⟩=some (.slice A txs.length c):=fun W u=>h0 W (UV.out.trans u)
  have g1:∀W,Upd No wv W→W.cell? ⟨z,1,none⟩=some (.slice B ords.length d):=fun W u=>h1 W (UV.out.trans u)
  have C2':=Qh (fun W (u:Upd No wv W)=>C2.out W (UV.out.trans u));clear bv u5 B5;refine(C2'.out _ hvv).mono ?_;rintro e w6 ⟨rfl,hu6⟩;have HU6:=Qh hu6;have CS:=Qh (fun W (u:Upd No wv W)=>ZkQ (c:=c5) (d:=0) (ap:=0) (a0:=0) (a1:=0) (a2:=0) (a3:=0) (a4:=0) (bp:=0) (b0:=0) (b1:=0) (b2:=0) (b3:=0) (b4:=0) (X5.out.upd u) (EdX.nil (A:=none)) (by simp) (by simp) rfl rfl (v:=true) (by decide))
  go_wp2_with fail
  refine(CS.out _ hu6).mono ?_;rintro e w7 ⟨rfl,hu7⟩;go_wp2
  go_ret
  exact⟨rfl,U0.out.trans (UV.out.trans (hu6.trans hu7))⟩
 by_cases p2:p=2
 ·subst p2
  go_enter Tryz.func4,Tryz.ntmps4
  go_wp2_with fail
  refine(L.out _).mono ?_;rintro e w2 ⟨rfl,hu2⟩
  go_wp2_with fail
  refine(CL.out _ hu2).mono ?_;rintro e w3 ⟨rfl,hu3⟩;have hu23:=hu2.trans hu3;obtain⟨⟨s0,s1',⟨s2,s3,s4⟩⟩,l,hl,hx⟩:=ZmH (p:=2) (by decide) hb;have hin:(ZC ⟨txs,ords,A,c,B,d⟩ 2).contains ⟨s0,s1',⟨s2,s3,s4⟩⟩=true:=by rw[hl];simp
  obtain⟨v2,hv2⟩:∃v2,(ZC ⟨txs,ords,A,c,B,d⟩ 2).contains (⟨bx,bp,⟨bt,bk,bn⟩⟩:HBad)=v2:=⟨_,rfl⟩;have hls:v2=true→Za2 ⟨bx,bp,⟨bt,bk,bn⟩⟩ ⟨s0,s1',⟨s2,s3,s4⟩⟩=false:=fun hv=>Zgr hl _ (by rw[hv]at hv2;simpa using hv2)
  have I1:=Qh (fun W (u:Upd No wb W)=>oIs F W txs ords A c B d 2 s0 s1' s2 s3 s4 (GH.out.upd u (fun _ _=>id)));rw[hin]at I1;have I2:=Qh (fun W (u:Upd No wb W)=>oIs F W txs ords A c B d 2 bx bp bt bk bn (GH.out.upd u (fun _ _=>id)));rw[hv2]at I2;have HLS:=Qh hls;clear hin hv2 hls hl hb;have C1:=Qh (CO.out _ hu23 2);have C2:=Qh (fun W (u:Upd No wb W)=>CH.out W u 2);have HL:=Qh (HOL.out 2);have Zbk:=Zia HV.out 2;rw[hx]at C1 Zbk HL;simp only at Zbk;rw[←Zbk]at C2;clear hx Zbk hu2 hu3
  go_wp2_with fail
  refine C1.out.mono ?_;rintro e w5 hh;obtain⟨A5,c5,rfl,hx5,hu5⟩:=hh.part (n:=0) rfl rfl;obtain⟨y,hy⟩:∃y,w5.heap.size=y:=⟨_,rfl⟩;have u5:Upd No wb (w5.alloc (.cells #[.int .i64 2,.slice A5 0 c5,.int .i64 s0,.int .i64 s1',.int .i64 s2,.int .i64 s3,.int .i64 s4] 40)):=(hu23.trans hu5).alloc _;have B5:=Qh (Blk.new w5 40 [.int .i64 2,.slice A5 0 c5,.int .i64 s0,.int .i64 s1',.int .i64 s2,.int .i64 s3,.int .i64 s4]);have X5:=Qh (hx5.upd ((Upd.refl No w5).alloc (.cells #[.int .i64 2,.slice A5 0 c5,.int .i64 s0,.int .i64 s1',.int .i64 s2,.int .i64 s3,.int .i64 s4] 40)));clear hh hx5 hu5 hu23 C1
  go_wp2_with fail
  obtain⟨wv,hwv⟩:∃wv,w5.alloc (.cells #[.int .i64 2,.slice A5 0 c5,.int .i64 s0,.int .i64 s1',.int .i64 s2,.int .i64 s3,.int .i64 s4] 40)=wv:=⟨_,rfl⟩;rw[hwv]at B5 X5 u5 ⊢;clear hwv;rw[hy]at B5;have bv:=B5.out;have m0:∀W,Upd No wv W→W.cell? ⟨y,0,none⟩=some (.int .i64 2):=fun W u=>(bv.upd u id).cell 0
  have m1:∀W,Upd No wv W→W.cell? ⟨y,1,none⟩=some (.slice A5 0 c5):=fun W u=>(bv.upd u id).cell 1
  have m2:∀W,Upd No wv W→W.cell? ⟨y,2,none⟩=some (.int .i64 s0):=fun W u=>(bv.upd u id).cell 2
  have m3:∀W,Upd No wv W→W.cell? ⟨y,3,none⟩=some (.int .i64 s1'):=fun W u=>(bv.upd u id).cell 3
  have m4:∀W,Upd No wv W→W.cell? ⟨y,4,none⟩=some (.int .i64 s2):=fun W u=>(bv.upd u id).cell 4
  have m5:∀W,Upd No wv W→W.cell? ⟨y,5,none⟩=some (.int .i64 s3):=fun W u=>(bv.upd u id).cell 5
  have m6:∀W,Upd No wv W→W.cell? ⟨y,6,none⟩=some (.int .i64 s4):=fun W u=>(bv.upd u id).cell 6
  have UV:=Qh u5;have hvv:Upd No wv wv:=Upd.refl _ _;have g0:∀W,Upd No wv W→W.cell? ⟨z,0,none⟩=some (.slice A txs.length c):=fun W u=>h0 W (UV.out.trans u)
  have g1:∀W,Upd No wv W→W.cell? ⟨z,1,none⟩=some (.slice B ords.length d):=fun W u=>h1 W (UV.out.trans u)
  have C2':=Qh (fun W (u:Upd No wv W)=>C2.out W (UV.out.trans u));clear bv u5 B5;refine(C2'.out _ hvv).mono ?_;rintro e w6 ⟨rfl,hu6⟩;have HU6:=Qh hu6;have p0:∀W,Upd No wv W→W.cell? ⟨z+1,0,none⟩=some (.int .i64 bx):=fun W u=>c0 W (UV.out.trans u)
  have p1:∀W,Upd No wv W→W.cell? ⟨z+1,1,none⟩=some (.int .i64 bp):=fun W u=>c1 W (UV.out.trans u)
  have p2:∀W,Upd No wv W→W.cell? ⟨z+1,2,none⟩=some (.int .i64 bt):=fun W u=>c2 W (UV.out.trans u)
  have p3:∀W,Upd No wv W→W.cell? ⟨z+1,3,none⟩=some (.int .i64 bk):=fun W u=>c3 W (UV.out.trans u)
  have p4:∀W,Upd No wv W→W.cell? ⟨z+1,4,none⟩=some (.int .i64 bn):=fun W u=>c4 W (UV.out.trans u)
  have J1:=Qh (fun W (u:Upd No wv W)=>I1.out W (UV.out.trans u));have J2:=Qh (fun W (u:Upd No wv W)=>I2.out W (UV.out.trans u))
  go_wp2_with fail
  refine(J1.out _ hu6).mono ?_;rintro e w7 ⟨rfl,hu7⟩;have hu67:=hu6.trans hu7
  go_wp2_with fail
  refine(J2.out _ hu67).mono ?_;rintro e w8 ⟨rfl,hu8⟩;have hu68:=hu67.trans hu8
  cases v2
  ·go_wp2
   go_ret
   exact⟨rfl,U0.out.trans (UV.out.trans hu68)⟩
  ·have OL:=Qh (fun W=>ZnA W ⟨bx,bp,⟨bt,bk,bn⟩⟩ ⟨s0,s1',⟨s2,s3,s4⟩⟩);rw[HLS.out rfl]at OL;simp only[HBad.cells]at OL
   go_wp2_with fail
   refine(OL.out _).mono ?_;rintro e w9 ⟨rfl,hu9⟩;go_wp2
   go_ret
   exact⟨rfl,U0.out.trans (UV.out.trans (hu68.trans hu9))⟩
 by_cases p3:p=3
 ·subst p3
  go_enter Tryz.func4,Tryz.ntmps4
  go_wp2_with fail
  refine(L.out _).mono ?_;rintro e w2 ⟨rfl,hu2⟩
  go_wp2_with fail
  refine(CL.out _ hu2).mono ?_;rintro e w3 ⟨rfl,hu3⟩;have hu23:=hu2.trans hu3;obtain⟨⟨s0,s1',⟨s2,s3,s4⟩⟩,l,hl,hx⟩:=ZmH (p:=3) (by decide) hb;have hin:(ZC ⟨txs,ords,A,c,B,d⟩ 3).contains ⟨s0,s1',⟨s2,s3,s4⟩⟩=true:=by rw[hl];simp
  obtain⟨v2,hv2⟩:∃v2,(ZC ⟨txs,ords,A,c,B,d⟩ 3).contains (⟨bx,bp,⟨bt,bk,bn⟩⟩:HBad)=v2:=⟨_,rfl⟩;have hls:v2=true→Za2 ⟨bx,bp,⟨bt,bk,bn⟩⟩ ⟨s0,s1',⟨s2,s3,s4⟩⟩=false:=fun hv=>Zgr hl _ (by rw[hv]at hv2;simpa using hv2)
  have I1:=Qh (fun W (u:Upd No wb W)=>oIs F W txs ords A c B d 3 s0 s1' s2 s3 s4 (GH.out.upd u (fun _ _=>id)));rw[hin]at I1;have I2:=Qh (fun W (u:Upd No wb W)=>oIs F W txs ords A c B d 3 bx bp bt bk bn (GH.out.upd u (fun _ _=>id)));rw[hv2]at I2;have HLS:=Qh hls;clear hin hv2 hls hl hb;have C1:=Qh (CO.out _ hu23 3);have C2:=Qh (fun W (u:Upd No wb W)=>CH.out W u 3);have HL:=Qh (HOL.out 3);have Zbk:=Zia HV.out 3;rw[hx]at C1 Zbk HL;simp only at Zbk;rw[←Zbk]at C2;clear hx Zbk hu2 hu3
  go_wp2_with fail
  refine C1.out.mono ?_;rintro e w5 hh;obtain⟨A5,c5,rfl,hx5,hu5⟩:=hh.part (n:=0) rfl rfl;obtain⟨y,hy⟩:∃y,w5.heap.size=y:=⟨_,rfl⟩;have u5:Upd No wb (w5.alloc (.cells #[.int .i64 3,.slice A5 0 c5,.int .i64 s0,.int .i64 s1',.int .i64 s2,.int .i64 s3,.int .i64 s4] 40)):=(hu23.trans hu5).alloc _;have B5:=Qh (Blk.new w5 40 [.int .i64 3,.slice A5 0 c5,.int .i64 s0,.int .i64 s1',.int .i64 s2,.int .i64 s3,.int .i64 s4]);have X5:=Qh (hx5.upd ((Upd.refl No w5).alloc (.cells #[.int .i64 3,.slice A5 0 c5,.int .i64 s0,.int .i64 s1',.int .i64 s2,.int .i64 s3,.int .i64 s4] 40)));clear hh hx5 hu5 hu23 C1
  go_wp2_with fail
  obtain⟨wv,hwv⟩:∃wv,w5.alloc (.cells #[.int .i64 3,.slice A5 0 c5,.int .i64 s0,.int .i64 s1',.int .i64 s2,.int .i64 s3,.int .i64 s4] 40)=wv:=⟨_,rfl⟩;rw[hwv]at B5 X5 u5 ⊢;clear hwv;rw[hy]at B5;have bv:=B5.out;have m0:∀W,Upd No wv W→W.cell? ⟨y,0,none⟩=some (.int .i64 3):=fun W u=>(bv.upd u id).cell 0
  have m1:∀W,Upd No wv W→W.cell? ⟨y,1,none⟩=some (.slice A5 0 c5):=fun W u=>(bv.upd u id).cell 1
  have m2:∀W,Upd No wv W→W.cell? ⟨y,2,none⟩=some (.int .i64 s0):=fun W u=>(bv.upd u id).cell 2
  have m3:∀W,Upd No wv W→W.cell? ⟨y,3,none⟩=some (.int .i64 s1'):=fun W u=>(bv.upd u id).cell 3
  have m4:∀W,Upd No wv W→W.cell? ⟨y,4,none⟩=some (.int .i64 s2):=fun W u=>(bv.upd u id).cell 4
  have m5:∀W,Upd No wv W→W.cell? ⟨y,5,none⟩=some (.int .i64 s3):=fun W u=>(bv.upd u id).cell 5
  have m6:∀W,Upd No wv W→W.cell? ⟨y,6,none⟩=some (.int .i64 s4):=fun W u=>(bv.upd u id).cell 6
  have UV:=Qh u5;have hvv:Upd No wv wv:=Upd.refl _ _;have g0:∀W,Upd No wv W→W.cell? ⟨z,0,none⟩=some (.slice A txs.length c):=fun W u=>h0 W (UV.out.trans u)
  have g1:∀W,Upd No wv W→W.cell? ⟨z,1,none⟩=some (.slice B ords.length d):=fun W u=>h1 W (UV.out.trans u)
  have C2':=Qh (fun W (u:Upd No wv W)=>C2.out W (UV.out.trans u));clear bv u5 B5;refine(C2'.out _ hvv).mono ?_;rintro e w6 ⟨rfl,hu6⟩;have HU6:=Qh hu6;have p0:∀W,Upd No wv W→W.cell? ⟨z+1,0,none⟩=some (.int .i64 bx):=fun W u=>c0 W (UV.out.trans u)
  have p1:∀W,Upd No wv W→W.cell? ⟨z+1,1,none⟩=some (.int .i64 bp):=fun W u=>c1 W (UV.out.trans u)
  have p2:∀W,Upd No wv W→W.cell? ⟨z+1,2,none⟩=some (.int .i64 bt):=fun W u=>c2 W (UV.out.trans u)
  have p3:∀W,Upd No wv W→W.cell? ⟨z+1,3,none⟩=some (.int .i64 bk):=fun W u=>c3 W (UV.out.trans u)
  have p4:∀W,Upd No wv W→W.cell? ⟨z+1,4,none⟩=some (.int .i64 bn):=fun W u=>c4 W (UV.out.trans u)
  have J1:=Qh (fun W (u:Upd No wv W)=>I1.out W (UV.out.trans u));have J2:=Qh (fun W (u:Upd No wv W)=>I2.out W (UV.out.trans u))
  go_wp2_with fail
  refine(J1.out _ hu6).mono ?_;rintro e w7 ⟨rfl,hu7⟩;have hu67:=hu6.trans hu7
  go_wp2_with fail
  refine(J2.out _ hu67).mono ?_;rintro e w8 ⟨rfl,hu8⟩;have hu68:=hu67.trans hu8
  cases v2
  ·go_wp2
   go_ret
   exact⟨rfl,U0.out.trans (UV.out.trans hu68)⟩
  ·have OL:=Qh (fun W=>ZnA W ⟨bx,bp,⟨bt,bk,bn⟩⟩ ⟨s0,s1',⟨s2,s3,s4⟩⟩);rw[HLS.out rfl]at OL;simp only[HBad.cells]at OL
   go_wp2_with fail
   refine(OL.out _).mono ?_;rintro e w9 ⟨rfl,hu9⟩;go_wp2
   go_ret
   exact⟨rfl,U0.out.trans (UV.out.trans (hu68.trans hu9))⟩
 have q2:(p==2)=false:=by simpa using p2
 have q3:(p==3)=false:=by simpa using p3
 obtain⟨hm,D,hD,hx,hcl,hall⟩:=Zsr HV.out (show¬(p=2∨p=3) by omega) hb;have HN:=Qh (fun(k1:Zae o=true) (k2:Zdk (Zba o) p=true) (k3:∀e∈o,(Zb ⟨txs,ords,A,c,B,d⟩&&Zbf ⟨txs,ords,A,c,B,d⟩ e)=true)=>Zo0 HV.out (show¬(p=2∨p=3) by omega) hm hx k1 k2 k3);have HALL:=Qh hall;have HCL:=Qh hcl;have PM:=Qh (fun W=>Zk8 W p);obtain⟨f0,hf0⟩:∃f0,(Zae o&&Zdk (Zba o) p)=f0:=⟨_,rfl⟩;have HF0:=Qh hf0;obtain⟨M,hM⟩:∃M,Zal p=M:=⟨_,rfl⟩;obtain⟨T,hT⟩:∃T,ZaJ p=T:=⟨_,rfl⟩;obtain⟨c0',hc0⟩:∃c0',Zae o=c0':=⟨_,rfl⟩;obtain⟨mo,hmo⟩:∃mo,Zba o=mo:=⟨_,rfl⟩;have hkf:=hf0;unfold Zdk at hkf;rw[hM,hT,hc0,hmo]at hkf;rw[hM,hT]at PM;have CC:=Qh (fun W (u:Upd No wb W)=>Zna (c:=ec) (GE.out W u) (by have:=G2.out;omega) rfl hc0);have CM:=Qh (fun W (u:Upd No wb W)=>ZuC (c:=ec) (GE.out W u) (by have:=G2.out;omega) rfl hmo);have CN:=Qh (fun W (u:Upd No wb W) (x:Edge)=>Zs7 (ef:=x.f) (et:=x.t) (ek:=x.k) (ey:=x.key) (c:=c) (d:=d) (GH.out.upd u (fun _ _=>id)) rfl rfl rfl rfl);have HKF:=Qh hkf;clear hb p2 p3 hm hD hcl hall hf0 hM hT hc0 hmo hkf
 go_enter Tryz.func4,Tryz.ntmps4
 go_wp2_with fail
 refine(L.out _).mono ?_;rintro e w2 ⟨rfl,hu2⟩
 go_wp2_with fail
 refine(CL.out _ hu2).mono ?_;rintro e w3 ⟨rfl,hu3⟩;have hu23:=hu2.trans hu3;have C1:=Qh (CO.out _ hu23 p);have C2:=Qh (fun W (u:Upd No wb W)=>CH.out W u p);have HL:=Qh (HOL.out p);have Zbk:=Zia HV.out p;rw[hx]at C1 Zbk HL;simp only at Zbk;rw[←Zbk]at C2;clear hx Zbk hu2 hu3
 go_wp2_with fail
 refine C1.out.mono ?_;rintro e w5 hh;obtain⟨A5,c5,rfl,hx5,hu5⟩:=hh.part (n:=D.length) rfl rfl;obtain⟨y,hy⟩:∃y,w5.heap.size=y:=⟨_,rfl⟩;have u5:Upd No wb (w5.alloc (.cells #[.int .i64 p,.slice A5 D.length c5,.int .i64 0,.int .i64 0,.int .i64 0,.int .i64 0,.int .i64 0] 40)):=(hu23.trans hu5).alloc _;have B5:=Qh (Blk.new w5 40 [.int .i64 p,.slice A5 D.length c5,.int .i64 0,.int .i64 0,.int .i64 0,.int .i64 0,.int .i64 0]);have X5:=Qh (hx5.upd ((Upd.refl No w5).alloc (.cells #[.int .i64 p,.slice A5 D.length c5,.int .i64 0,.int .i64 0,.int .i64 0,.int .i64 0,.int .i64 0] 40)));clear hh hx5 hu5 hu23 C1
 go_wp2_with fail
 obtain⟨wv,hwv⟩:∃wv,w5.alloc (.cells #[.int .i64 p,.slice A5 D.length c5,.int .i64 0,.int .i64 0,.int .i64 0,.int .i64 0,.int .i64 0] 40)=wv:=⟨_,rfl⟩;rw[hwv]at B5 X5 u5 ⊢;clear hwv;rw[hy]at B5;have bv:=B5.out;have m0:∀W,Upd No wv W→W.cell? ⟨y,0,none⟩=some (.int .i64 p):=fun W u=>(bv.upd u id).cell 0
 have m1:∀W,Upd No wv W→W.cell? ⟨y,1,none⟩=some (.slice A5 D.length c5):=fun W u=>(bv.upd u id).cell 1
 have m2:∀W,Upd No wv W→W.cell? ⟨y,2,none⟩=some (.int .i64 0):=fun W u=>(bv.upd u id).cell 2
 have m3:∀W,Upd No wv W→W.cell? ⟨y,3,none⟩=some (.int .i64 0):=fun W u=>(bv.upd u id).cell 3
 have m4:∀W,Upd No wv W→W.cell? ⟨y,4,none⟩=some (.int .i64 0):=fun W u=>(bv.upd u id).cell 4
 have m5:∀W,Upd No wv W→W.cell? ⟨y,5,none⟩=some (.int .i64 0):=fun W u=>(bv.upd u id).cell 5
 have m6:∀W,Upd No wv W→W.cell? ⟨y,6,none⟩=some (.int .i64 0):=fun W u=>(bv.upd u id).cell 6
 have UV:=Qh u5;have hvv:Upd No wv wv:=Upd.refl _ _;have g0:∀W,Upd No wv W→W.cell? ⟨z,0,none⟩=some (.slice A txs.length c):=fun W u=>h0 W (UV.out.trans u)
 have g1:∀W,Upd No wv W→W.cell? ⟨z,1,none⟩=some (.slice B ords.length d):=fun W u=>h1 W (UV.out.trans u)
 have C2':=Qh (fun W (u:Upd No wv W)=>C2.out W (UV.out.trans u));clear bv u5 B5;refine(C2'.out _ hvv).mono ?_;rintro e w6 ⟨rfl,hu6⟩;have HU6:=Qh hu6;have CC':=Qh (fun W (u:Upd No wv W)=>CC.out W (UV.out.trans u));have CM':=Qh (fun W (u:Upd No wv W)=>CM.out W (UV.out.trans u));have CN':=Qh (fun W (u:Upd No wv W) x=>CN.out W (UV.out.trans u) x);have GE':=Qh (fun W (u:Upd No wv W)=>GE.out W (UV.out.trans u))
 go_wp2_with fail
 refine(PM.out _).mono ?_;rintro e w7 ⟨rfl,rfl⟩
 go_upto_region 13 with fail
 go_cut [13] (fun s wc=>s= .bool f0∧Upd No w6 wc)
 case first=>
  go_wp2_with fail
  refine(CC'.out _ hu6).mono ?_;rintro e w8 ⟨rfl,hu8⟩;have hu68:=hu6.trans hu8
  cases c0'
  ·have HT:=Qh (show f0=false by have:=HKF.out;rw[←this];rfl)
   go_wp2_with fail
   go_meet
   exact⟨by rw[HT.out],hu8⟩
  ·go_wp2_with fail
   refine(CM'.out _ hu68).mono ?_;rintro e w9 ⟨rfl,hu9⟩;have hu69:=hu68.trans hu9;have hu89:=hu8.trans hu9
   cases k1:(bits .andNot .i64 mo M==0)
   ·have HT:=Qh (show f0=false by have:=HKF.out;rw[←this,k1];rfl)
    go_wp2_with fail
    go_meet
    exact⟨by rw[HT.out],hu89⟩
   ·cases k2:(T==0)
    ·go_wp2_with fail
     refine(CM'.out _ hu69).mono ?_;rintro e w10 ⟨rfl,hu10⟩;have hu8a:=hu89.trans hu10;have k3:(bits .and .i64 mo T != 0)=f0:=by have:=HKF.out;rw[←this,k1,k2];simp[bne]
     go_wp2_with fail
     go_meet
     exact⟨rfl,hu8a⟩
    ·have HT:=Qh (show f0=true by have:=HKF.out;rw[←this,k1,k2];rfl)
     go_wp2_with fail
     go_meet
     exact⟨by rw[HT.out],hu89⟩
 case rest=>
  obtain⟨rfl,huc⟩:=hcut;obtain⟨w8,hw8⟩:∃w8,w8=wc:=⟨_,rfl⟩;subst hw8;have hu8:=hu6.trans huc;have HU8:=Qh hu8;clear huc hu6;go_wp2
  go_loopg [13,102] o.length (fun gk sf i wr=>∃(k:Nat) (fk:Bool),k+gk=o.length∧i= .int .i64 (k:Int)∧sf= .bool fk∧Hid (fk=(f0&&(o.take k).all fun e=>Zb ⟨txs,ords,A,c,B,d⟩&&Zbf ⟨txs,ords,A,c,B,d⟩ e))∧Hid (Upd No wv wr))
  case atStart=>exact⟨0,f0,by omega,rfl,rfl,Qh (by simp),HU8⟩
  case round=>
   clear hu8;obtain⟨k,fk,hgk,rfl,rfl,hfk,hu⟩:=hrel
   by_cases hlt:k<o.length
   ·obtain⟨G,hG⟩:=GE'.out wr hu.out;obtain⟨ax,rfl,q0,q1,q2',q3'⟩:=hG.at_ hlt;obtain⟨x,hx⟩:∃x,o[k]=x:=⟨_,rfl⟩;rw[hx]at q0 q1 q2' q3'
    have HST:=Qh (show(f0&&(o.take (k+1)).all fun e=>Zb ⟨txs,ords,A,c,B,d⟩&&Zbf ⟨txs,ords,A,c,B,d⟩ e)=(fk&&(Zb ⟨txs,ords,A,c,B,d⟩&&Zbf ⟨txs,ords,A,c,B,d⟩ x)) by
     rw[hfk.out,List.take_succ_eq_append_getElem hlt,List.all_append,hx,Bool.and_assoc];simp)
    have i1:(0:Int)≤(k:Int):=Qn _;have i2:(k:Int)<(o.length:Int):=by omega
    have jw:IntKind.i64.wrap ((k:Int)+1)=(k:Int)+1:=IntWalk.i64_in _ (by have:=G2.out;omega);obtain⟨wz,hwz⟩:∃wz,wr.alloc (.cells #[.int .i64 x.f,.int .i64 x.t,.int .i64 x.k,.int .i64 x.key] 26)=wz:=⟨_,rfl⟩;have uz:Upd No wr wz:=by rw[←hwz];exact(Upd.refl No wr).alloc _
    have bz:Blk wz wr.heap.size 26 [.int .i64 x.f,.int .i64 x.t,.int .i64 x.k,.int .i64 x.key]:=by rw[←hwz];exact Blk.new wr _ _
    have z0:=bz.cell 0;have z1:=bz.cell 1;have z2:=bz.cell 2;have z3:=bz.cell 3;simp only[Qz,Qs]at z0 z1 z2 z3;have huz:=hu.out.trans uz;have HUZ:=Qh huz;clear hx bz uz hG hfk
    cases fk
    ·go_wp2
     go_roundg (gk-1)
     case measure=>omega
     case rel=>exact⟨k+1,false,by omega,by simp,rfl,Qh (by rw[HST.out];rfl),HUZ⟩
    ·have CX:=Qh (CN'.out _ huz x);have HP:=Qh (Zkh (h:=⟨txs,ords,A,c,B,d⟩) x);have hp:=HP.out;obtain⟨cx,hcx⟩:∃cx,ZdI ⟨txs,ords,A,c,B,d⟩ x=cx:=⟨_,rfl⟩;rw[hcx]at hp;have CX':=CX.out;rw[show(⟨x.f,x.t,x.k,x.key⟩:Edge)=x from rfl,hcx]at CX';have CX2:=Qh CX';obtain⟨eb,heb⟩:∃eb,(Zb ⟨txs,ords,A,c,B,d⟩&&Zbf ⟨txs,ords,A,c,B,d⟩ x)=eb:=⟨_,rfl⟩;rw[heb]at hp HST;clear CX CX' HP hcx heb
     go_wp2_with fail
     refine(CX2.out).mono ?_;rintro e w9 ⟨rfl,hu9⟩;go_wp2
     go_roundg (gk-1)
     case measure=>omega
     case rel=>exact⟨k+1,eb,by omega,by simp,by rw[show decide (0<cx)=eb by rw[←hp];simp],Qh (by rw[HST.out];rfl),Qh (huz.trans hu9)⟩
   ·obtain rfl:k=o.length:=by omega
    have hff:=hfk.out;rw[List.take_length]at hff;have HFF:=Qh hff;have hur:=hu.out;have X5r:=Qh (X5.out.upd hur);have hDl:D.length≤2000:=by have:=HL.out;simpa using this
    obtain⟨wo,hwo⟩:∃wo,wo=wr:=⟨_,rfl⟩;subst hwo;clear hff hfk hu;go_wp2
    generalize gk=GK at*
    go_loopg [117] D.length (fun gk i wx=>∃(j:Nat),j+gk=D.length∧i= .int .i64 (j:Int)∧Hid (Upd No wo wx))
    case atStart=>exact⟨0,by omega,rfl,Qh (Upd.refl _ _)⟩
    case round=>
     obtain⟨j,hgj,rfl,hux⟩:=hrel
     by_cases hlj:j<D.length
     ·obtain⟨G,hG⟩:=X5r.out.upd hux.out;obtain⟨ax,rfl,q0,q1,q2',q3'⟩:=hG.at_ hlj;obtain⟨x,hx⟩:∃x,D[j]=x:=⟨_,rfl⟩;have hxm:x∈D:=by rw[←hx];exact List.getElem_mem _
      rw[hx]at q0 q1 q2' q3';have i1:(0:Int)≤(j:Int):=Qn _;have i2:(j:Int)<(D.length:Int):=by omega
      have jw:IntKind.i64.wrap ((j:Int)+1)=(j:Int)+1:=IntWalk.i64_in _ (by omega);obtain⟨wz,hwz⟩:∃wz,wr.alloc (.cells #[.int .i64 x.f,.int .i64 x.t,.int .i64 x.k,.int .i64 x.key] 26)=wz:=⟨_,rfl⟩;have uz:Upd No wr wz:=by rw[←hwz];exact(Upd.refl No wr).alloc _
      have bz:Blk wz wr.heap.size 26 [.int .i64 x.f,.int .i64 x.t,.int .i64 x.k,.int .i64 x.key]:=by rw[←hwz];exact Blk.new wr _ _
      have z0:=bz.cell 0;have z1:=bz.cell 1;have z2:=bz.cell 2;have z3:=bz.cell 3;simp only[Qz,Qs]at z0 z1 z2 z3;have huz:=(hur.trans hux.out).trans uz;have hnz:=Zrc (HALL.out x hxm);have CX':=CN'.out _ huz x;obtain⟨cx,hcx⟩:∃cx,ZdI ⟨txs,ords,A,c,B,d⟩ x=cx:=⟨_,rfl⟩;rw[show(⟨x.f,x.t,x.k,x.key⟩:Edge)=x from rfl,hcx]at CX';rw[hcx]at hnz;have CX2:=Qh CX';have HUX:=Qh (hux.out.trans uz);clear CX' hcx hx hxm bz uz hG
      go_wp2_with fail
      refine(CX2.out).mono ?_;rintro e w9 ⟨rfl,hu9⟩;go_wp2
      go_roundg (gk-1)
      case measure=>omega
      case rel=>exact⟨j+1,by omega,by simp,Qh (HUX.out.trans hu9)⟩
     ·obtain rfl:j=D.length:=by omega
      have hurx:=hur.trans hux.out;have C7:=Qh (fun W (u:Upd No wv W)=>Zna (c:=c5) (X5.out.upd u) (by omega) rfl HCL.out);have q5:=fun W=>Zjo W ⟨0,0,⟨0,0,0⟩⟩ ⟨0,0,⟨0,0,0⟩⟩
      simp only[beq_self_eq_true]at q5
      go_wp2_with fail
      refine(C7.out _ hurx).mono ?_;rintro e w9 ⟨rfl,hu9⟩;have hu79:=hurx.trans hu9
      cases fk
      ·go_wp2
       go_ret
       exact⟨rfl,U0.out.trans (UV.out.trans hu79)⟩
      ·have hls:Zb5 o D=false:=by
        have h:=HFF.out.symm;rw[Bool.and_eq_true]at h;have h0:=HF0.out;rw[h.1,Bool.and_eq_true]at h0;exact HN.out h0.1 h0.2 (List.all_eq_true.1 h.2)
       have C8:=Qh (fun W (u:Upd No wv W)=>ZrI (c:=ec) (d:=c5) (GE'.out W u) (X5.out.upd u) (by have:=G2.out;omega) rfl rfl hls);clear hls
       go_wp2_with fail
       refine(C8.out _ hu79).mono ?_;rintro e w10 ⟨rfl,hu10⟩;go_wp2
       go_ret
       exact⟨rfl,U0.out.trans (UV.out.trans (hu79.trans hu10))⟩
end
end Go.Proofs.YtonblekdfinpkaaGreat
