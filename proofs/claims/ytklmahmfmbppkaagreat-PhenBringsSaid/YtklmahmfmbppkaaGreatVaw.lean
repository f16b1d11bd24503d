/- How histories that come in read. -/
import Derived.OpenShut
import Derived.Test.YtklmahmfmbppkaaGreatVak
import Derived.Test.YtklmahmfmbppkaaGreatVaq
namespace Go.Proofs.YtklmahmfmbppkaaGreat
set_option linter.unusedVariables false
set_option linter.unusedSimpArgs false
section
open Go.RowKit
theorem cs4 {l:List Value} (h:l.length=4):∃a b c d,l=[a,b,c,d]:=
 match l,h with
 |[a,b,c,d],_=>⟨a,b,c,d,rfl⟩
theorem cs3 {l:List Value} (h:l.length=3):∃a b c,l=[a,b,c]:=
 match l,h with
 |[a,b,c],_=>⟨a,b,c,rfl⟩
theorem cs2 {l:List Value} (h:l.length=2):∃a b,l=[a,b]:=
 match l,h with
 |[a,b],_=>⟨a,b,rfl⟩
theorem cs1 {l:List Value} (h:l.length=1):∃a,l=[a]:=
 match l,h with
 |[a],_=>⟨a,rfl⟩
theorem ZrW {n:Int} (h:(Lit.int .i64 n).wf=true):i64 n:=by
 unfold i64;simp[Lit.wf,IntKind.min,IntKind.max,IntKind.signed,IntKind.bits]at h;omega
theorem Zjk:Tryz.prog.cellsOf 3=1:=by kernel_rfl
theorem ZoE:Tryz.prog.cellsOf 4=1:=by kernel_rfl
theorem Zs2:Tryz.prog.cellsOf 113=4:=by kernel_rfl
theorem ZuK:Tryz.prog.bytesOf 113=32:=by kernel_rfl
theorem Zt0:Tryz.prog.cellsOf 38=1:=by kernel_rfl
theorem Zs0:Tryz.prog.cellsOf 40=3:=by kernel_rfl
theorem ZuJ:Tryz.prog.bytesOf 40=40:=by kernel_rfl
theorem ZtZ:Tryz.prog.cellsOf 22=1:=by kernel_rfl
theorem Zs3:Tryz.prog.cellsOf 37=1:=by kernel_rfl
theorem Zt2:Tryz.prog.bytesOf 3=8:=by kernel_rfl
theorem ZqK:Tryz.prog.cellsOf 59=2:=by kernel_rfl
theorem Zt1:Tryz.prog.bytesOf 59=32:=by kernel_rfl
theorem Zs1:Tryz.prog.cellsOf 23=1:=by kernel_rfl
theorem Zs4:Tryz.prog.cellsOf 25=2:=by kernel_rfl
section
variable {H:Type} {enc:TypeId×Value→H} {w:World} {base:Nat} {spare:Nat→Bool} {held:Bool} {row:List Value}
theorem rhi {v:Value} (h:Rdz enc Tryz.prog w base spare held 3 [v]):∃n,v= .int .i64 n∧i64 n:=by
 obtain⟨n,e,hw⟩:=Rdz.int_ Tryz.underlying3 h
 cases e
 exact⟨n,rfl,ZrW hw⟩
theorem rhb {v:Value} (h:Rdz enc Tryz.prog w base spare held 4 [v]):∃n,v= .bool n:=by
 obtain⟨n,e⟩:=Rdz.bool_ Tryz.underlying4 h
 cases e
 exact⟨n,rfl⟩
theorem Zug (h:Rdz enc Tryz.prog w base spare held 113 row):∃o:HOp,row=o.cells∧o.ok:=by
 obtain⟨hl,hf⟩:=h.struct_ Tryz.underlying113;rw[Zs2]at hl;obtain⟨c0,c1,c2,c3,rfl⟩:=cs4 hl;have h0:Rdz enc Tryz.prog w base spare held 4 (([c0,c1,c2,c3].drop 0).take (Tryz.prog.cellsOf 4)):=hf 0 _ rfl;have h1:Rdz enc Tryz.prog w base spare held 3 (([c0,c1,c2,c3].drop 1).take (Tryz.prog.cellsOf 3)):=hf 1 _ rfl;have h2:Rdz enc Tryz.prog w base spare held 3 (([c0,c1,c2,c3].drop 2).take (Tryz.prog.cellsOf 3)):=hf 2 _ rfl;have h3:Rdz enc Tryz.prog w base spare held 3 (([c0,c1,c2,c3].drop 3).take (Tryz.prog.cellsOf 3)):=hf 3 _ rfl;rw[Zjk]at h1 h2 h3;rw[ZoE]at h0;obtain⟨n0,rfl⟩:=rhb h0;obtain⟨n1,rfl,b1⟩:=rhi h1;obtain⟨n2,rfl,b2⟩:=rhi h2;obtain⟨n3,rfl,b3⟩:=rhi h3;exact⟨⟨n0,n1,n2,n3⟩,rfl,b1,b2,b3⟩
theorem Ztg {v:Value} (h:Rdz enc Tryz.prog w base spare held 38 [v]):∃(A:Option Addr) (c:Nat) (l:List HOp),v= .slice A l.length c∧HOps (fun _=>True) w A l∧l.length≤c∧Zh l.length∧∀o∈l,o.ok:=by
 rcases h.slice_ Tryz.underlying38 Zs2 (by omega)with h|⟨a,len,cap,rows,hv,hl,hm,hlen,hz,hrec,hrow⟩
 ·cases h
  exact⟨none,0,[],rfl,fun h=>absurd rfl h,by simp,by unfold Zh;simp,fun e he=>by simp at he⟩
 ·cases hv
  obtain⟨l,rfl,hok⟩:=Zdr (f:=HOp.cells) (Q:=HOp.ok) fun row hr=>Zug (hrow row hr).2
  rw[List.length_map]at hlen;subst hlen;rw[ZuK]at hz;unfold reachBytes at hz;exact⟨some a,cap,l,rfl,hrec,hl,by unfold Zh;omega,hok⟩
theorem Zsa {v:Value} (h:Rdz enc Tryz.prog w base spare held 37 [v]):∃(A:Option Addr) (c:Nat) (l:List Int),v= .slice A l.length c∧Ints (fun _=>True) w A l∧l.length≤c∧l.length≤17592186044415∧∀n∈l,i64 n:=by
 rcases h.slice_ Tryz.underlying37 Zjk (by omega)with h|⟨a,len,cap,rows,hv,hl,hm,hlen,hz,hrec,hrow⟩
 ·cases h
  exact⟨none,0,[],rfl,fun h=>absurd rfl h,by simp,by simp,fun e he=>by simp at he⟩
 ·cases hv
  obtain⟨l,rfl,hok⟩:=Zdr (f:=fun n:Int=>[Value.int .i64 n]) (Q:=i64) fun row hr=>by
   obtain⟨h1,h2⟩:=hrow row hr;obtain⟨a,rfl⟩:=cs1 h1;obtain⟨n,rfl,hn⟩:=rhi h2;exact⟨n,rfl,hn⟩
  rw[List.length_map]at hlen;subst hlen;rw[Zt2]at hz;unfold reachBytes at hz;refine⟨some a,cap,l,rfl,fun hne=> ?_,hl,by omega,hok⟩;obtain⟨ad,e,hf,hb,hc⟩:=hrec (by simpa using hne);refine⟨ad,e,hf,hb,fun j v hj=> ?_⟩;have:=hc j [.int .i64 v] (by rw[List.getElem?_map,hj];rfl) 0 (.int .i64 v) rfl
  simpa using this
theorem Zuf (h:Rdz enc Tryz.prog w base spare held 40 row):∃t:HTx,row=t.cells∧t.lies (fun _=>True) w:=by
 obtain⟨hl,hf⟩:=h.struct_ Tryz.underlying40;rw[Zs0]at hl;obtain⟨c0,c1,c2,rfl⟩:=cs3 hl;have h0:Rdz enc Tryz.prog w base spare held 3 (([c0,c1,c2].drop 0).take (Tryz.prog.cellsOf 3)):=hf 0 _ rfl;have h1:Rdz enc Tryz.prog w base spare held 4 (([c0,c1,c2].drop 1).take (Tryz.prog.cellsOf 4)):=hf 1 _ rfl;have h2:Rdz enc Tryz.prog w base spare held 38 (([c0,c1,c2].drop 2).take (Tryz.prog.cellsOf 38)):=hf 2 _ rfl;rw[Zjk]at h0;rw[ZoE]at h1;rw[Zt0]at h2;obtain⟨n0,rfl,b0⟩:=rhi h0;obtain⟨n1,rfl⟩:=rhb h1;obtain⟨A,c,l,rfl,hh,hc,hs,hok⟩:=Ztg h2;exact⟨⟨n0,n1,l,A,c⟩,rfl,hh,hc,hs,b0,hok⟩
theorem Ztf (h:Rdz enc Tryz.prog w base spare held 59 row):∃o:HOrd,row=o.cells∧o.lies (fun _=>True) w:=by
 obtain⟨hl,hf⟩:=h.struct_ Tryz.underlying59;rw[ZqK]at hl;obtain⟨c0,c1,rfl⟩:=cs2 hl;have h0:Rdz enc Tryz.prog w base spare held 3 (([c0,c1].drop 0).take (Tryz.prog.cellsOf 3)):=hf 0 _ rfl;have h1:Rdz enc Tryz.prog w base spare held 37 (([c0,c1].drop 1).take (Tryz.prog.cellsOf 37)):=hf 1 _ rfl;rw[Zjk]at h0;rw[Zs3]at h1;obtain⟨n0,rfl,b0⟩:=rhi h0;obtain⟨A,c,l,rfl,hh,hc,hs,hok⟩:=Zsa h1;exact⟨⟨n0,l,A,c⟩,rfl,hh,hc,hs,b0,hok⟩
theorem Zje (h:Rdz enc Tryz.prog w base spare held 25 row):∃x:Hist,row=x.cells∧x.lies (fun _=>True) w:=by
 obtain⟨hl,hf⟩:=h.struct_ Tryz.underlying25;rw[Zs4]at hl;obtain⟨c0,c1,rfl⟩:=cs2 hl;have h0:Rdz enc Tryz.prog w base spare held 22 (([c0,c1].drop 0).take (Tryz.prog.cellsOf 22)):=hf 0 _ rfl;have h1:Rdz enc Tryz.prog w base spare held 23 (([c0,c1].drop 1).take (Tryz.prog.cellsOf 23)):=hf 1 _ rfl;rw[ZtZ]at h0;rw[Zs1]at h1;clear hl
 have q0:∃(A:Option Addr) (c:Nat) (l:List HTx),c0= .slice A l.length c∧Recs (fun _=>True) w A 3 (l.map HTx.cells)∧l.length≤c∧l.length≤4398046511103∧∀t∈l,t.lies (fun _=>True) w:=by
  have h0':Rdz enc Tryz.prog w base spare held 22 [c0]:=h0;rcases h0'.slice_ Tryz.underlying22 Zs0 (by omega)with h|⟨a,len,cap,rows,hv,hl,hm,hlen,hz,hrec,hrow⟩
  ·cases h
   exact⟨none,0,[],rfl,fun h=>absurd rfl h,by simp,by simp,fun e he=>by simp at he⟩
  ·cases hv
   obtain⟨l,rfl,hok⟩:=Zdr (f:=HTx.cells) (Q:=fun t=>t.lies (fun _=>True) w) fun row hr=>Zuf (hrow row hr).2
   rw[List.length_map]at hlen;subst hlen;rw[ZuJ]at hz;unfold reachBytes at hz;exact⟨some a,cap,l,rfl,hrec,hl,by omega,hok⟩
 have q1:∃(A:Option Addr) (c:Nat) (l:List HOrd),c1= .slice A l.length c∧Recs (fun _=>True) w A 2 (l.map HOrd.cells)∧l.length≤c∧l.length≤4398046511103∧∀t∈l,t.lies (fun _=>True) w:=by
  have h1':Rdz enc Tryz.prog w base spare held 23 [c1]:=h1;rcases h1'.slice_ Tryz.underlying23 ZqK (by omega)with h|⟨a,len,cap,rows,hv,hl,hm,hlen,hz,hrec,hrow⟩
  ·cases h
   exact⟨none,0,[],rfl,fun h=>absurd rfl h,by simp,by simp,fun e he=>by simp at he⟩
  ·cases hv
   obtain⟨l,rfl,hok⟩:=Zdr (f:=HOrd.cells) (Q:=fun t=>t.lies (fun _=>True) w) fun row hr=>Ztf (hrow row hr).2
   rw[List.length_map]at hlen;subst hlen;rw[Zt1]at hz;unfold reachBytes at hz;exact⟨some a,cap,l,rfl,hrec,hl,by omega,hok⟩
 obtain⟨A,c,l,rfl,r1,r2,r3,r4⟩:=q0;obtain⟨B,d,m,rfl,s1,s2,s3,s4⟩:=q1;exact⟨⟨l,m,A,c,B,d⟩,rfl,r1,s1,r4,s4,r2,s2,r3,s3⟩
end
end
/- How arrays of six Booleans that come in read. -/
section
open Go.RowKit
theorem Ze1 {P:Program} {w:World} {r:Reach} {base:Nat} {t e:TypeId} {v:Value} {n:Nat} (ht:P.underlying t=some (.array n e)) (h:Value.okWide P w r base t v):∃cs,v= .agg cs∧cs.size=P.cellsOf t:=by
 simp only[Value.okWide,ht]at h;obtain⟨cs,h1,h2,_⟩:=h;exact⟨cs,h1,h2⟩
theorem Rdz.array_ {H:Type} {enc:TypeId×Value→H} {P:Program} {w:World} {base:Nat} {spare:Nat→Bool} {held:Bool} {t e:TypeId} {cs:List Value} {n:Nat} (ht:P.underlying t=some (.array n e)) (h:Rdz enc P w base spare held t cs):
  cs.length=P.cellsOf t∧∀i:Nat,i<n→∃m y,DataW.trod enc P w base spare held m e ((cs.drop (i*P.cellsOf e)).take (P.cellsOf e))=some y:=by
 obtain⟨k,y,h,_⟩:=h;obtain⟨xs,m,_,rfl,hl,hxl,hf⟩:=DataW.trod_array ht h;refine⟨hl,fun i hi=> ?_⟩;have hil:i<xs.length:=by omega
 exact⟨m,xs[i],(hf i hi).trans (Qg hil)⟩
theorem cs6 {l:List Value} (h:l.length=6):∃a b c d e f,l=[a,b,c,d,e,f]:=
 match l,h with
 |[a,b,c,d,e,f],_=>⟨a,b,c,d,e,f,rfl⟩
theorem Zs5:Tryz.prog.cellsOf 31=6:=by kernel_rfl
theorem ZrU:Tryz.prog.cellsOf 4=1:=by kernel_rfl
theorem Zns {H:Type} {enc:TypeId×Value→H} {w:World} {base:Nat} {spare:Nat→Bool} {held:Bool} {row:List Value} (h:Rdz enc Tryz.prog w base spare held 31 row):
  ∃b0 b1 b2 b3 b4 b5:Bool,row=[.bool b0,.bool b1,.bool b2,.bool b3,.bool b4,.bool b5]:=by
 obtain⟨hl,hf⟩:=h.array_ Tryz.underlying31;rw[Zs5]at hl;obtain⟨c0,c1,c2,c3,c4,c5,rfl⟩:=cs6 hl;rw[ZrU]at hf
 have key:∀(i:Nat) (c:Value),i<6→(([c0,c1,c2,c3,c4,c5].drop (i*1)).take 1)=[c]→∃b,c= .bool b:=fun i c hi e=>by
  obtain⟨m,y,hy⟩:=hf i hi;rw[e]at hy;obtain⟨a,ha,_⟩:=DataW.trod_bool Tryz.underlying4 hy;simp only[List.cons.injEq,and_true]at ha;exact⟨a,ha⟩
 obtain⟨b0,rfl⟩:=key 0 c0 (by omega) rfl;obtain⟨b1,rfl⟩:=key 1 c1 (by omega) rfl;obtain⟨b2,rfl⟩:=key 2 c2 (by omega) rfl;obtain⟨b3,rfl⟩:=key 3 c3 (by omega) rfl;obtain⟨b4,rfl⟩:=key 4 c4 (by omega) rfl;obtain⟨b5,rfl⟩:=key 5 c5 (by omega) rfl;exact⟨b0,b1,b2,b3,b4,b5,rfl⟩
end
end Go.Proofs.YtklmahmfmbppkaaGreat
