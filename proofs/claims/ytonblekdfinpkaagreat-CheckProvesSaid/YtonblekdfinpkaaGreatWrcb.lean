/- Witnesses, plain: there is one just if the history has the phenomenon; it is right, and none that is right is ahead of it. -/
import Derived.Test.YtonblekdfinpkaaGreatWrbk
import Derived.Test.YtonblekdfinpkaaGreatWrbx
import Derived.Test.YtonblekdfinpkaaGreatWrca
namespace Go.Proofs.YtonblekdfinpkaaGreat
set_option linter.unusedVariables false
set_option linter.unusedSimpArgs false
section
section
variable {h:Hist}
theorem mem_pl {e:Edge}:e∈ZS (ZD h)↔(Zb h&&ZN h e)=true:=by
 unfold ZS;rw[List.mem_map,Bool.and_eq_true]
 constructor
 ·rintro⟨x,hx,rfl⟩;have hr:=ZlG hx;refine⟨hr,?_⟩;rw[←ZlN hr];exact decide_eq_true (Nat.pos_of_ne_zero ((ZbT hr).1 hx).1)
 ·rintro⟨hr,he⟩;rw[←ZlN hr,decide_eq_true_eq]at he;exact⟨⟨e,(Zax h e:Int)⟩,(ZbT hr).2 ⟨by simp only;omega,rfl⟩,rfl⟩
theorem Zk0 (hl:ZW h=true):(ZS (ZD h)).length≤1152:=by unfold ZS;rw[List.length_map];exact ZeP hl
theorem ZhJ:∀(txs:List HTx) (p:Int) (t:HTx) (l:List HOp) (i:Nat) (acc:List HBad),(acc.Pairwise fun a b=>ZbE b a=false)→(∀a∈acc,a.tx<t.id∨(a.tx=t.id∧a.place<(i:Int)))→((Zdn txs p t i acc l).Pairwise fun a b=>ZbE b a=false)∧∀a∈Zdn txs p t i acc l,a.tx<t.id∨a.tx=t.id
 |_,_,_,[],_,_,h1,h2=>⟨h1,fun a ha=>(h2 a ha).elim Or.inl fun h=>Or.inr h.1⟩
 |txs,p,t,o::l,i,acc,h1,h2=>by
  unfold Zdn
  split
  ·refine ZhJ txs p t l (i+1) _ ?_ ?_
   ·rw[List.pairwise_append];refine⟨h1,List.pairwise_singleton _ _,fun a ha b hb=> ?_⟩;rw[List.mem_singleton.1 hb];unfold ZbE;rcases h2 a ha with h|⟨h,h3⟩
    ·rw[if_pos (by simp only;omega)];exact decide_eq_false (by simp only;omega)
    ·rw[if_neg (by simp only;omega),if_pos (by simp only;omega)];exact decide_eq_false (by simp only;omega)
   ·intro a ha;rcases List.mem_append.1 ha with ha|ha
    ·rcases h2 a ha with h|⟨h,h3⟩
     ·exact Or.inl h
     ·exact Or.inr ⟨h,by omega⟩
    ·rw[List.mem_singleton.1 ha];exact Or.inr ⟨rfl,by simp only;omega⟩
  ·exact ZhJ txs p t l (i+1) acc h1 fun a ha=>(h2 a ha).elim Or.inl fun h=>Or.inr ⟨h.1,by omega⟩
theorem Zkk (txs:List HTx) (p:Int):∀(l:List HTx) (acc:List HBad),(l.map (·.id)).Pairwise (·<·)→(acc.Pairwise fun a b=>ZbE b a=false)→(∀a∈acc,∀t∈l,a.tx<t.id)→(ZdH txs p acc l).Pairwise fun a b=>ZbE b a=false
 |[],_,_,h1,_=>h1
 |t::l,acc,hn,h1,h2=>by
  unfold ZdH;rw[List.map_cons,List.pairwise_cons]at hn;obtain⟨k1,k2⟩:=ZhJ txs p t t.ops 0 acc h1 fun a ha=>Or.inl (h2 a ha t (List.mem_cons_self ..))
  refine Zkk txs p l _ hn.2 k1 fun a ha u hu=> ?_
  have h3:=hn.1 u.id (List.mem_map.2 ⟨u,hu,rfl⟩);rcases k2 a ha with h|h<;>omega
theorem ZpO {p:Int} {b:HBad} {l:List HBad} (hb:Z3 h p=b::l) (a:HBad) (ha:a∈Z3 h p):ZbE a b=false:=by
 have hr:Zb h=true:=by
  cases hq:Zb h with
  |true=>rfl
  |false=>unfold Z3 at hb;rw[hq]at hb;cases hb
 have hs:=Zkk h.txs p h.txs [] (Zdd hr) List.Pairwise.nil (fun a ha=>by cases ha);have he:ZdH h.txs p [] h.txs=b::l:=by unfold Z3 at hb;rw[if_pos hr]at hb;exact hb
 rw[he,List.pairwise_cons]at hs;rw[hb]at ha;rcases List.mem_cons.1 ha with rfl|ha
 ·unfold ZbE;simp
 ·exact hs.1 a ha
theorem ZqK (p:Int):Zaf (ZaS p)= !(ZaS p==0):=by
 unfold ZaS
 split
 ·rfl
 ·rfl
theorem Zir {l:List Edge} (hk:∀e∈l,1≤e.k∧e.k≤3) (hc:ZaP l=true) (p:Int):Zfe (Zck l) p=ZeO l (Zan p) (ZaS p):=by
 have h1:(bits .andNot .i64 (Zck l) (Zan p)==0)=l.all fun e=>Zs (Zan p) e.k:=by
  unfold Zck;rw[Zml,Bool.eq_iff_iff,Bool.not_eq_true',List.all_eq_true];simp only[Bool.or_eq_false_iff,Bool.and_eq_false_iff,Bool.not_eq_false']
  constructor
  ·rintro⟨g1,g2,g3⟩ e he;obtain⟨k1,k2⟩:=hk e he;unfold Zs;rw[decide_eq_true k1,decide_eq_true k2,Bool.true_and,Bool.true_and];rcases(show e.k=1∨e.k=2∨e.k=3 by omega)with hq|hq|hq
   ·rw[hq];exact g1.resolve_left fun g=>by rw[hasK_iff.2 ⟨e,he,hq⟩]at g;cases g
   ·rw[hq];exact g2.resolve_left fun g=>by rw[hasK_iff.2 ⟨e,he,hq⟩]at g;cases g
   ·rw[hq];exact g3.resolve_left fun g=>by rw[hasK_iff.2 ⟨e,he,hq⟩]at g;cases g
  ·intro g
   have key:∀k:Int,Za1 l l.length k=false∨Zd (Zan p) k=true:=by
    intro k
    cases hq:Za1 l l.length k with
    |false=>exact Or.inl rfl
    |true=>
     obtain⟨e,he,rfl⟩:=hasK_iff.1 hq;have:=g e he;unfold Zs at this;rw[Bool.and_eq_true,Bool.and_eq_true]at this;exact Or.inr this.2.2
   exact⟨key 1,key 2,key 3⟩
 unfold Zfe ZeO;rw[h1,hc,Bool.true_and,ZqK,Bool.not_not];rfl
theorem Zrb {all d:List Edge} {mask must:Int} (hl:all.length≤100000) (hd:ZaO all mask must=d) (hne:d≠[]):ZeO d mask must=true∧ZaP d=true∧∀e∈d,e∈all:=by
 have hs:=ZnU (l:=all) (mask:=mask) (must:=must) hl;rw[hd]at hs;rcases hs with hs|hs
 ·have hc:=Zow hs (List.length_pos_iff.2 hne);have hk:∀e∈d,1≤e.k∧e.k≤3:=fun e he=>⟨(hs.kind e he).1.1,(hs.kind e he).1.2.1⟩
  refine⟨?_,hc,fun e he=>(hs.kind e he).2⟩;unfold ZeO;rw[hc,Bool.true_and,Bool.and_eq_true,List.all_eq_true];refine⟨fun e he=> ?_,?_⟩
  ·obtain⟨k1,k2,k3⟩:=(hs.kind e he).1;unfold Zs;rw[decide_eq_true k1,decide_eq_true k2,k3];rfl
  ·cases hn:Zaf must with
   |false=>rfl
   |true=>rw[Zll hk,hs.has hn];rfl
 ·exact absurd hs hne
theorem Zlb (hl:ZW h=true) (p:Int):(ofX h p).2=ZfK h p:=by
 unfold ofX ZfK
 split
 ·cases hb:Z3 h p with
  |nil=>rfl
  |cons b l=>simp[Zcb]
 ·unfold Zdz;have hd:=ZoB (ZS (ZD h)) (Zan p) (ZaS p) (by have:=Zk0 hl;omega)
  split
  ·rename_i hm;rw[hm,Zh1]
  ·split
   ·rename_i he
    cases hq:Zb2 (ZS (ZD h)) (Zan p) (ZaS p)with
    |false=>rfl
    |true=>exact absurd he (hd.1 hq)
   ·rename_i he
    exact(hd.2 he).symm
theorem Zla (hl:ZW h=true) (p:Int):Zl h (ofX h p).1.p (ofX h p).1.walk (ofX h p).1.read=(ofX h p).2:=by
 have hz:Zl h zeroW.p zeroW.walk zeroW.read=false:=by unfold Zl zeroW;simp[Zan]
 unfold ofX
 split
 ·rename_i hp
  cases hb:Z3 h p with
  |nil=>exact hz
  |cons b l=>
   have hm:(Z3 h p).contains b=true:=by rw[hb];simp
   rw[ZpN,Bool.and_eq_true]at hm;unfold Zcb Zl;simp only;rw[hm.1,if_pos hp,hm.2];rfl
 ·rename_i hp
  unfold Zdz
  split
  ·exact hz
  ·rename_i hm
   split
   ·exact hz
   ·rename_i he
    obtain⟨d,hd⟩:∃d,ZaO (ZS (ZD h)) (Zan p) (ZaS p)=d:=⟨_,rfl⟩;rw[hd]at he ⊢;obtain⟨h1,h2,h3⟩:=Zrb (by have:=Zk0 hl;omega) hd he;have hall:∀e∈d,(Zb h&&ZN h e)=true:=fun e he=>mem_pl.1 (h3 e he)
    obtain⟨e0,he0⟩:=List.exists_mem_of_ne_nil d he;have hr:Zb h=true:=by have:=hall e0 he0;rw[Bool.and_eq_true]at this;exact this.1
    have hk:∀e∈d,1≤e.k∧e.k≤3:=fun e he=>by
     have:=hall e he;rw[Bool.and_eq_true]at this;have:=Zj9 this.2;omega
    unfold Zl;simp only;rw[hr,if_neg hp,h2,Zir hk h2,h1,show d.all (ZN h)=true from List.all_eq_true.2 fun e he=>by have:=hall e he;rw[Bool.and_eq_true]at this;exact this.2];simp[hm,Zcx]
theorem Zns (a:HBad):ZbE a a=false:=by unfold ZbE;simp
theorem ZkT (hl:ZW h=true) {w:HWit} (hw:Zl h w.p w.walk w.read=true):(ofX h w.p).2=true∧ZfD w (ofX h w.p).1=false:=by
 unfold Zl at hw;rw[Bool.and_eq_true]at hw;obtain⟨hr,hw⟩:=hw;unfold ofX
 split at hw
 ·rename_i hp
  rw[if_pos hp];rw[Bool.and_eq_true,decide_eq_true_eq]at hw;have hm:(Z3 h w.p).contains w.read=true:=by rw[ZpN,hr,hw.2];rfl
  have hm2:w.read∈Z3 h w.p:=by simpa using hm
  cases hb:Z3 h w.p with
  |nil=>rw[hb]at hm2;cases hm2
  |cons b l=>
   refine⟨rfl,?_⟩;unfold ZfD Zcb;simp only;rw[if_pos (List.eq_nil_of_length_eq_zero hw.1)];exact ZpO hb _ hm2
 ·rename_i hp
  rw[if_neg hp];simp only[Bool.and_eq_true]at hw;obtain⟨⟨⟨⟨g1,g2⟩,g3⟩,g4⟩,g5⟩:=hw;have hm:¬Zan w.p=0:=by simpa using g1
  have hall:∀e∈w.walk,e∈ZS (ZD h):=fun e he=>mem_pl.2 (by rw[hr,List.all_eq_true.1 g5 e he];rfl)
  have hk:∀e∈w.walk,1≤e.k∧e.k≤3:=fun e he=>by
   have:=Zj9 (List.all_eq_true.1 g5 e he);omega
  rw[Zir hk g3]at g4;have hlen:(ZS (ZD h)).length≤100000:=by have:=Zk0 hl;omega
  unfold Zdz;rw[if_neg hm];obtain⟨d,hd⟩:∃d,ZaO (ZS (ZD h)) (Zan w.p) (ZaS w.p)=d:=⟨_,rfl⟩;rw[hd]
  by_cases he:d=[]
  ·have:=ZnD hlen hall (hd.trans he);rw[g4]at this;cases this
  ·rw[if_neg he];refine⟨rfl,?_⟩;unfold ZfD;simp only;have hrd:w.read=Zcx:=by simpa using g2
   split
   ·rw[hrd];exact Zns _
   ·exact ZnE hlen hall hd (List.length_pos_iff.2 he) g4
end
end
/- Witnesses:the law that they are what the document says:the walk. -/
section
open Go.RowKit
section
variable {w:World} {A B:Option Addr} {c d n m:Nat} {ap a0 a1 a2 a3 a4 bp b0 b1 b2 b3 b4:Int} {aw bw:List Edge} {v:Bool}
end
theorem Zol (l:List Edge) (p:Int) (hl:l.length≤2000):(Zdz l p).1.walk.length≤2000:=by
 unfold Zdz
 split
 ·simp[zeroW]
 ·split
  ·simp[zeroW]
  ·rcases ZsO l (Zan p) (ZaS p) (by omega)with h|h
   ·simp only;omega
   ·simp only;rw[h];simp
theorem ZoJ (l:List HBad) (p:Int):(Zcb l p).1.walk.length≤2000:=by
 cases l<;>simp[Zcb,zeroW]
theorem Zsq (h:Hist) (p:Int) (hl:ZW h=true):(ofX h p).1.walk.length≤2000:=by
 unfold ofX
 split
 ·exact ZoJ _ _
 ·exact Zol _ _ (by unfold ZS;rw[List.length_map];have:=ZeP hl;omega)
end
/- Witnesses:the law that what is right shows the phenomenon,and its own witness is right:the walk (CheckProves). -/
section
open Go.RowKit
def ZpZ:Prop:=∀w:World,Calls Tryz.prog 28 #[] w fun e w'=>e= .returned (.bool true)∧Upd No w w'
set_option maxRecDepth 100000 in
set_option maxHeartbeats 8000000 in
theorem Zqq (F:Nat→Prop) (w:World) (txs:List HTx) (ords:List HOrd) (A:Option Addr) (c:Nat) (B:Option Addr) (d:Nat) (ap a0 a1 a2 a3 a4:Int) (X:Option Addr) (xc:Nat) (aw:List Edge)
  (H:Hist.lies F w ⟨txs,ords,A,c,B,d⟩) (HA:EdX w X aw) (hla:aw.length≤4398046511103) (L:Hid ZpZ):
  Calls Tryz.prog 5 #[.agg #[.slice A txs.length c,.slice B ords.length d],.agg #[.int .i64 ap,.slice X aw.length xc,.int .i64 a0,.int .i64 a1,.int .i64 a2,.int .i64 a3,.int .i64 a4]] w fun e w'=>e= .returned (.bool true)∧Upd No w w':=by
 obtain⟨z,hz⟩:∃z,w.heap.size=z:=⟨_,rfl⟩;obtain⟨w1,hw1⟩:∃w1,w.alloc (.cells #[.slice A txs.length c,.slice B ords.length d] 50)=w1:=⟨_,rfl⟩;have s1:w1.heap.size=z+1:=by rw[←hw1,←hz];simp
 obtain⟨wb,hwb⟩:∃wb,w1.alloc (.cells #[.int .i64 ap,.slice X aw.length xc,.int .i64 a0,.int .i64 a1,.int .i64 a2,.int .i64 a3,.int .i64 a4] 40)=wb:=⟨_,rfl⟩;have u1:Upd No w w1:=by rw[←hw1];exact(Upd.refl No w).alloc _
 have u2:Upd No w1 wb:=by rw[←hwb];exact(Upd.refl No w1).alloc _
 have k1:Blk w1 z 50 [.slice A txs.length c,.slice B ords.length d]:=by rw[←hw1,←hz];exact Blk.new w _ _
 have k2:Blk wb (z+1) 40 [.int .i64 ap,.slice X aw.length xc,.int .i64 a0,.int .i64 a1,.int .i64 a2,.int .i64 a3,.int .i64 a4]:=by rw[←hwb,←s1];exact Blk.new w1 _ _
 have h0:∀W,Upd No wb W→W.cell? ⟨z,0,none⟩=some (.slice A txs.length c):=fun W u=>(k1.upd (u2.trans u) id).cell 0
 have h1:∀W,Upd No wb W→W.cell? ⟨z,1,none⟩=some (.slice B ords.length d):=fun W u=>(k1.upd (u2.trans u) id).cell 1
 have x0:∀W,Upd No wb W→W.cell? ⟨z+1,0,none⟩=some (.int .i64 ap):=fun W u=>(k2.upd u id).cell 0
 have x1:∀W,Upd No wb W→W.cell? ⟨z+1,1,none⟩=some (.slice X aw.length xc):=fun W u=>(k2.upd u id).cell 1
 have x2:∀W,Upd No wb W→W.cell? ⟨z+1,2,none⟩=some (.int .i64 a0):=fun W u=>(k2.upd u id).cell 2
 have x3:∀W,Upd No wb W→W.cell? ⟨z+1,3,none⟩=some (.int .i64 a1):=fun W u=>(k2.upd u id).cell 3
 have x4:∀W,Upd No wb W→W.cell? ⟨z+1,4,none⟩=some (.int .i64 a2):=fun W u=>(k2.upd u id).cell 4
 have x5:∀W,Upd No wb W→W.cell? ⟨z+1,5,none⟩=some (.int .i64 a3):=fun W u=>(k2.upd u id).cell 5
 have x6:∀W,Upd No wb W→W.cell? ⟨z+1,6,none⟩=some (.int .i64 a4):=fun W u=>(k2.upd u id).cell 6
 have hr:Upd No wb wb:=Upd.refl _ _;have U0:=Qh (u1.trans u2);have GH:=Qh (H.upd U0.out (fun _ _=>id));have GA:=Qh (fun W (u:Upd No wb W)=>EdX.upd HA (U0.out.trans u));obtain⟨v,hv⟩:∃v,ZW ⟨txs,ords,A,c,B,d⟩=v:=⟨_,rfl⟩;have HV:=Qh hv;have CL:=Qh (fun W (u:Upd No wb W)=>Zsy (GH.out.upd u (fun _ _=>id)) hv);clear u1 u2 k1 k2 hv H HA
 go_enter Tryz.func5,Tryz.ntmps5
 go_wp2_with fail
 refine(L.out _).mono ?_;rintro e w2 ⟨rfl,hu2⟩
 go_wp2_with fail
 refine(CL.out _ hu2).mono ?_;rintro e w3 ⟨rfl,hu3⟩;have hu23:=hu2.trans hu3
 cases v
 ·go_wp2
  go_ret
  exact⟨rfl,U0.out.trans hu23⟩
 by_cases g2:60<aw.length
 ·have e2:decide ((60:Int)<(aw.length:Int))=true:=decide_eq_true (by omega);go_wp2
  go_ret
  exact⟨rfl,U0.out.trans hu23⟩
 have e2:decide ((60:Int)<(aw.length:Int))=false:=decide_eq_false (by omega);have G2:=Qh g2;have CO:=Qh (fun W (u:Upd No wb W) q=>wOf F W txs ords A c B d q (GH.out.upd u (fun _ _=>id)) HV.out);have CH:=Qh (fun W (u:Upd No wb W) q=>Zvn F W txs ords A c B d q (GH.out.upd u (fun _ _=>id)) HV.out);have HOL:=Qh (fun q=>Zsq ⟨txs,ords,A,c,B,d⟩ q HV.out);obtain⟨bv,hbv⟩:∃bv,Zl ⟨txs,ords,A,c,B,d⟩ ap aw ⟨a0,a1,⟨a2,a3,a4⟩⟩=bv:=⟨_,rfl⟩;have CA:=Qh (fun W (u:Upd No wb W)=>ZcP (c:=c) (d:=d) (xc:=xc) (GH.out.upd u (fun _ _=>id)) (GA.out W u) (by omega) rfl rfl rfl hbv);have HBV:=Qh hbv;clear g2 hbv
 go_wp2_with fail
 refine(CA.out _ hu23).mono ?_;rintro e w4 ⟨rfl,hu4⟩;have hu24:=hu23.trans hu4
 cases bv
 ·clear hu2 hu3 hu4 hu23;go_wp2
  go_loopg [7] 5 (fun gk i wr=>∃q:Int,i= .int .i64 q∧1≤q∧q+(gk:Int)=6∧Hid (Upd No wb wr))
  case atStart=>exact⟨1,rfl,by omega,by omega,Qh (hu24)⟩
  case round=>
   obtain⟨q,rfl,hq1,hq2,hu⟩:=hrel
   by_cases hq:q<6
   ·have hqb:decide (q<6)=true:=decide_eq_true hq;have hw:IntKind.i64.wrap (q+1)=q+1:=IntWalk.i64_in _ (by omega);obtain⟨⟨⟨xp,xw,⟨r0,r1,⟨r2,r3,r4⟩⟩⟩,xb⟩,hx⟩:∃x,ofX ⟨txs,ords,A,c,B,d⟩ q=x:=⟨_,rfl⟩;have C1:=Qh (CO.out wr hu.out q);have Zdk:=Zlb HV.out q;have hrt:=Zla HV.out q;have HL:=Qh (HOL.out q);have C2:=Qh (fun W (u:Upd No wb W)=>CH.out W u q);rw[hx]at C1 Zdk hrt HL;rw[←Zdk]at C2;simp only at hrt C2;have HRT:=Qh hrt;have hur:=hu.out;clear hx Zdk hrt
    go_wp2_with fail
    refine C1.out.mono ?_;rintro e w5 hh;obtain⟨A5,c5,rfl,hx5,hu5⟩:=hh.part rfl rfl;obtain⟨y,hy⟩:∃y,w5.heap.size=y:=⟨_,rfl⟩;obtain⟨wv,hwv⟩:∃wv,w5.alloc (.cells #[.int .i64 xp,.slice A5 xw.length c5,.int .i64 r0,.int .i64 r1,.int .i64 r2,.int .i64 r3,.int .i64 r4] 40)=wv:=⟨_,rfl⟩;have uv:Upd No w5 wv:=by rw[←hwv];exact(Upd.refl No w5).alloc _
    have bv:Blk wv y 40 [.int .i64 xp,.slice A5 xw.length c5,.int .i64 r0,.int .i64 r1,.int .i64 r2,.int .i64 r3,.int .i64 r4]:=by rw[←hwv,←hy];exact Blk.new w5 _ _
    have m0:∀W,Upd No wv W→W.cell? ⟨y,0,none⟩=some (.int .i64 xp):=fun W u=>(bv.upd u id).cell 0
    have m1:∀W,Upd No wv W→W.cell? ⟨y,1,none⟩=some (.slice A5 xw.length c5):=fun W u=>(bv.upd u id).cell 1
    have m2:∀W,Upd No wv W→W.cell? ⟨y,2,none⟩=some (.int .i64 r0):=fun W u=>(bv.upd u id).cell 2
    have m3:∀W,Upd No wv W→W.cell? ⟨y,3,none⟩=some (.int .i64 r1):=fun W u=>(bv.upd u id).cell 3
    have m4:∀W,Upd No wv W→W.cell? ⟨y,4,none⟩=some (.int .i64 r2):=fun W u=>(bv.upd u id).cell 4
    have m5:∀W,Upd No wv W→W.cell? ⟨y,5,none⟩=some (.int .i64 r3):=fun W u=>(bv.upd u id).cell 5
    have m6:∀W,Upd No wv W→W.cell? ⟨y,6,none⟩=some (.int .i64 r4):=fun W u=>(bv.upd u id).cell 6
    have UV:=Qh ((hu.out.trans hu5).trans uv);have hvv:Upd No wv wv:=Upd.refl _ _;have g0:∀W,Upd No wv W→W.cell? ⟨z,0,none⟩=some (.slice A txs.length c):=fun W u=>h0 W (UV.out.trans u)
    have g1:∀W,Upd No wv W→W.cell? ⟨z,1,none⟩=some (.slice B ords.length d):=fun W u=>h1 W (UV.out.trans u)
    have X5:=Qh (hx5.upd uv);have C3:=Qh (fun W (u:Upd No wv W)=>ZcP (c:=c) (d:=d) (xc:=c5) (GH.out.upd (UV.out.trans u) (fun _ _=>id)) (X5.out.upd u) (Nat.le_trans HL.out (by decide)) rfl rfl rfl HRT.out);have C2':=Qh (fun W (u:Upd No wv W)=>C2.out W (UV.out.trans u));have q1:(xb==xb)=true:=by simp
    have q2:(xb != xb)=false:=by simp
    clear hh hx5 hu5 uv bv hur
    go_wp2_with fail
    refine(C2'.out _ hvv).mono ?_;rintro e w6 ⟨rfl,hu6⟩
    go_wp2_with fail
    refine(C3.out _ hu6).mono ?_;rintro e w7 ⟨rfl,hu7⟩;go_wp2
    go_roundg (gk-1)
    case measure=>omega
    case rel=>exact⟨q+1,rfl,by omega,by omega,Qh (UV.out.trans (hu6.trans hu7))⟩
   ·have hqb:decide (q<6)=false:=decide_eq_false hq;go_wp2
    go_ret
    exact⟨rfl,U0.out.trans hu.out⟩
 ·obtain⟨hof,hless⟩:=ZkT (w:=⟨ap,aw,⟨a0,a1,⟨a2,a3,a4⟩⟩⟩) HV.out HBV.out;have Zdk:=Zlb HV.out ap;simp only at hof hless;obtain⟨⟨⟨xp,xw,⟨r0,r1,⟨r2,r3,r4⟩⟩⟩,xb⟩,hx⟩:∃x,ofX ⟨txs,ords,A,c,B,d⟩ ap=x:=⟨_,rfl⟩;have C1:=Qh (CO.out w4 hu24 ap);have C2:=Qh (fun W (u:Upd No wb W)=>CH.out W u ap);have HL:=Qh (HOL.out ap);rw[hx]at C1 hof hless Zdk HL;simp only at hof hless Zdk;subst hof;rw[←Zdk]at C2;have HLS:=Qh hless;clear hx hless Zdk hu2 hu3 hu4 hu23
  go_wp2_with fail
  refine C1.out.mono ?_;rintro e w5 hh;obtain⟨A5,c5,rfl,hx5,hu5⟩:=hh.part rfl rfl;obtain⟨y,hy⟩:∃y,w5.heap.size=y:=⟨_,rfl⟩;obtain⟨wv,hwv⟩:∃wv,w5.alloc (.cells #[.int .i64 xp,.slice A5 xw.length c5,.int .i64 r0,.int .i64 r1,.int .i64 r2,.int .i64 r3,.int .i64 r4] 40)=wv:=⟨_,rfl⟩;have uv:Upd No w5 wv:=by rw[←hwv];exact(Upd.refl No w5).alloc _
  have bv:Blk wv y 40 [.int .i64 xp,.slice A5 xw.length c5,.int .i64 r0,.int .i64 r1,.int .i64 r2,.int .i64 r3,.int .i64 r4]:=by rw[←hwv,←hy];exact Blk.new w5 _ _
  have m0:∀W,Upd No wv W→W.cell? ⟨y,0,none⟩=some (.int .i64 xp):=fun W u=>(bv.upd u id).cell 0
  have m1:∀W,Upd No wv W→W.cell? ⟨y,1,none⟩=some (.slice A5 xw.length c5):=fun W u=>(bv.upd u id).cell 1
  have m2:∀W,Upd No wv W→W.cell? ⟨y,2,none⟩=some (.int .i64 r0):=fun W u=>(bv.upd u id).cell 2
  have m3:∀W,Upd No wv W→W.cell? ⟨y,3,none⟩=some (.int .i64 r1):=fun W u=>(bv.upd u id).cell 3
  have m4:∀W,Upd No wv W→W.cell? ⟨y,4,none⟩=some (.int .i64 r2):=fun W u=>(bv.upd u id).cell 4
  have m5:∀W,Upd No wv W→W.cell? ⟨y,5,none⟩=some (.int .i64 r3):=fun W u=>(bv.upd u id).cell 5
  have m6:∀W,Upd No wv W→W.cell? ⟨y,6,none⟩=some (.int .i64 r4):=fun W u=>(bv.upd u id).cell 6
  have UV:=Qh ((hu24.trans hu5).trans uv);have hvv:Upd No wv wv:=Upd.refl _ _;have g0:∀W,Upd No wv W→W.cell? ⟨z,0,none⟩=some (.slice A txs.length c):=fun W u=>h0 W (UV.out.trans u)
  have g1:∀W,Upd No wv W→W.cell? ⟨z,1,none⟩=some (.slice B ords.length d):=fun W u=>h1 W (UV.out.trans u)
  have y0:∀W,Upd No wv W→W.cell? ⟨z+1,0,none⟩=some (.int .i64 ap):=fun W u=>x0 W (UV.out.trans u)
  have y1:∀W,Upd No wv W→W.cell? ⟨z+1,1,none⟩=some (.slice X aw.length xc):=fun W u=>x1 W (UV.out.trans u)
  have y2:∀W,Upd No wv W→W.cell? ⟨z+1,2,none⟩=some (.int .i64 a0):=fun W u=>x2 W (UV.out.trans u)
  have y3:∀W,Upd No wv W→W.cell? ⟨z+1,3,none⟩=some (.int .i64 a1):=fun W u=>x3 W (UV.out.trans u)
  have y4:∀W,Upd No wv W→W.cell? ⟨z+1,4,none⟩=some (.int .i64 a2):=fun W u=>x4 W (UV.out.trans u)
  have y5:∀W,Upd No wv W→W.cell? ⟨z+1,5,none⟩=some (.int .i64 a3):=fun W u=>x5 W (UV.out.trans u)
  have y6:∀W,Upd No wv W→W.cell? ⟨z+1,6,none⟩=some (.int .i64 a4):=fun W u=>x6 W (UV.out.trans u)
  have X5:=Qh (hx5.upd uv);have C2':=Qh (fun W (u:Upd No wv W)=>C2.out W (UV.out.trans u));have C4:=Qh (fun W (u:Upd No wv W)=>Ztx (c:=xc) (d:=c5) (GA.out W (UV.out.trans u)) (X5.out.upd u) (by have:=G2.out;omega) (Nat.le_trans HL.out (by decide)) rfl rfl HLS.out);clear hh hx5 hu5 uv bv
  go_wp2_with fail
  refine(C2'.out _ hvv).mono ?_;rintro e w6 ⟨rfl,hu6⟩
  go_wp2_with fail
  refine(C4.out _ hu6).mono ?_;rintro e w7 ⟨rfl,hu7⟩;have hu27:=UV.out.trans (hu6.trans hu7);clear hu6 hu7 hvv m0 m1 m2 m3 m4 m5 m6 g0 g1 y0 y1 y2 y3 y4 y5 y6 hy hwv hu24;go_wp2
  go_loopg [7] 5 (fun gk i wr=>∃q:Int,i= .int .i64 q∧1≤q∧q+(gk:Int)=6∧Hid (Upd No wb wr))
  case atStart=>exact⟨1,rfl,by omega,by omega,Qh (hu27)⟩
  case round=>
   obtain⟨q,rfl,hq1,hq2,hu⟩:=hrel
   by_cases hq:q<6
   ·have hqb:decide (q<6)=true:=decide_eq_true hq;have hw:IntKind.i64.wrap (q+1)=q+1:=IntWalk.i64_in _ (by omega);obtain⟨⟨⟨xp,xw,⟨r0,r1,⟨r2,r3,r4⟩⟩⟩,xb⟩,hx⟩:∃x,ofX ⟨txs,ords,A,c,B,d⟩ q=x:=⟨_,rfl⟩;have C1:=Qh (CO.out wr hu.out q);have Zdk:=Zlb HV.out q;have hrt:=Zla HV.out q;have HL:=Qh (HOL.out q);have C2:=Qh (fun W (u:Upd No wb W)=>CH.out W u q);rw[hx]at C1 Zdk hrt HL;rw[←Zdk]at C2;simp only at hrt C2;have HRT:=Qh hrt;have hur:=hu.out;clear hx Zdk hrt
    go_wp2_with fail
    refine C1.out.mono ?_;rintro e w5 hh;obtain⟨A5,c5,rfl,hx5,hu5⟩:=hh.part rfl rfl;obtain⟨y,hy⟩:∃y,w5.heap.size=y:=⟨_,rfl⟩;obtain⟨wv,hwv⟩:∃wv,w5.alloc (.cells #[.int .i64 xp,.slice A5 xw.length c5,.int .i64 r0,.int .i64 r1,.int .i64 r2,.int .i64 r3,.int .i64 r4] 40)=wv:=⟨_,rfl⟩;have uv:Upd No w5 wv:=by rw[←hwv];exact(Upd.refl No w5).alloc _
    have bv:Blk wv y 40 [.int .i64 xp,.slice A5 xw.length c5,.int .i64 r0,.int .i64 r1,.int .i64 r2,.int .i64 r3,.int .i64 r4]:=by rw[←hwv,←hy];exact Blk.new w5 _ _
    have m0:∀W,Upd No wv W→W.cell? ⟨y,0,none⟩=some (.int .i64 xp):=fun W u=>(bv.upd u id).cell 0
    have m1:∀W,Upd No wv W→W.cell? ⟨y,1,none⟩=some (.slice A5 xw.length c5):=fun W u=>(bv.upd u id).cell 1
    have m2:∀W,Upd No wv W→W.cell? ⟨y,2,none⟩=some (.int .i64 r0):=fun W u=>(bv.upd u id).cell 2
    have m3:∀W,Upd No wv W→W.cell? ⟨y,3,none⟩=some (.int .i64 r1):=fun W u=>(bv.upd u id).cell 3
    have m4:∀W,Upd No wv W→W.cell? ⟨y,4,none⟩=some (.int .i64 r2):=fun W u=>(bv.upd u id).cell 4
    have m5:∀W,Upd No wv W→W.cell? ⟨y,5,none⟩=some (.int .i64 r3):=fun W u=>(bv.upd u id).cell 5
    have m6:∀W,Upd No wv W→W.cell? ⟨y,6,none⟩=some (.int .i64 r4):=fun W u=>(bv.upd u id).cell 6
    have UV:=Qh ((hu.out.trans hu5).trans uv);have hvv:Upd No wv wv:=Upd.refl _ _;have g0:∀W,Upd No wv W→W.cell? ⟨z,0,none⟩=some (.slice A txs.length c):=fun W u=>h0 W (UV.out.trans u)
    have g1:∀W,Upd No wv W→W.cell? ⟨z,1,none⟩=some (.slice B ords.length d):=fun W u=>h1 W (UV.out.trans u)
    have X5:=Qh (hx5.upd uv);have C3:=Qh (fun W (u:Upd No wv W)=>ZcP (c:=c) (d:=d) (xc:=c5) (GH.out.upd (UV.out.trans u) (fun _ _=>id)) (X5.out.upd u) (Nat.le_trans HL.out (by decide)) rfl rfl rfl HRT.out);have C2':=Qh (fun W (u:Upd No wv W)=>C2.out W (UV.out.trans u));have q1:(xb==xb)=true:=by simp
    have q2:(xb != xb)=false:=by simp
    clear hh hx5 hu5 uv bv hur
    go_wp2_with fail
    refine(C2'.out _ hvv).mono ?_;rintro e w6 ⟨rfl,hu6⟩
    go_wp2_with fail
    refine(C3.out _ hu6).mono ?_;rintro e w7 ⟨rfl,hu7⟩;go_wp2
    go_roundg (gk-1)
    case measure=>omega
    case rel=>exact⟨q+1,rfl,by omega,by omega,Qh (UV.out.trans (hu6.trans hu7))⟩
   ·have hqb:decide (q<6)=false:=decide_eq_false hq;go_wp2
    go_ret
    exact⟨rfl,U0.out.trans hu.out⟩
end
end Go.Proofs.YtonblekdfinpkaaGreat
