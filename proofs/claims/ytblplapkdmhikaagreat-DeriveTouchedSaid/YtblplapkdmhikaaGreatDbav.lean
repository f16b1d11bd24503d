/- How histories that come in read. -/
import Derived.Test.YtblplapkdmhikaaGreatDbak
import Derived.Test.YtblplapkdmhikaaGreatDbaq
namespace Go.Proofs.YtblplapkdmhikaaGreat
set_option linter.unusedVariables false
set_option linter.unusedSimpArgs false
section
open Go.RowKit
theorem cs4 {l:List Value} (h:l.length=4):∃a b c d,l=[a,b,c,d]:=
 match l,h with
 |[a,b,c,d],_=>⟨a,b,c,d,rfl⟩
theorem cs3 {l:List Value} (h:l.length=3):∃a b c,l=[a,b,c]:=
 match l,h with
 |[a,b,c],_=>⟨a,b,c,rfl⟩
theorem cs2 {l:List Value} (h:l.length=2):∃a b,l=[a,b]:=
 match l,h with
 |[a,b],_=>⟨a,b,rfl⟩
theorem cs1 {l:List Value} (h:l.length=1):∃a,l=[a]:=
 match l,h with
 |[a],_=>⟨a,rfl⟩
theorem Znu {n:Int} (h:(Lit.int .i64 n).wf=true):i64 n:=by
 unfold i64;simp[Lit.wf,IntKind.min,IntKind.max,IntKind.signed,IntKind.bits]at h;omega
theorem Zhn:Tryz.prog.cellsOf 3=1:=by kernel_rfl
theorem Zln:Tryz.prog.cellsOf 4=1:=by kernel_rfl
theorem Zoi:Tryz.prog.cellsOf 95=4:=by kernel_rfl
theorem Zpo:Tryz.prog.bytesOf 95=32:=by kernel_rfl
theorem ZoU:Tryz.prog.cellsOf 79=1:=by kernel_rfl
theorem Zog:Tryz.prog.cellsOf 81=3:=by kernel_rfl
theorem Zpn:Tryz.prog.bytesOf 81=40:=by kernel_rfl
theorem ZoT:Tryz.prog.cellsOf 26=1:=by kernel_rfl
theorem Zoj:Tryz.prog.cellsOf 64=1:=by kernel_rfl
theorem ZoW:Tryz.prog.bytesOf 3=8:=by kernel_rfl
theorem ZmI:Tryz.prog.cellsOf 100=2:=by kernel_rfl
theorem ZoV:Tryz.prog.bytesOf 100=32:=by kernel_rfl
theorem Zoh:Tryz.prog.cellsOf 27=1:=by kernel_rfl
theorem Zok:Tryz.prog.cellsOf 29=2:=by kernel_rfl
section
variable {H:Type} {enc:TypeId×Value→H} {w:World} {base:Nat} {spare:Nat→Bool} {held:Bool} {row:List Value}
theorem rhi {v:Value} (h:Rdz enc Tryz.prog w base spare held 3 [v]):∃n,v= .int .i64 n∧i64 n:=by
 obtain⟨n,e,hw⟩:=Rdz.int_ Tryz.underlying3 h
 cases e
 exact⟨n,rfl,Znu hw⟩
theorem rhb {v:Value} (h:Rdz enc Tryz.prog w base spare held 4 [v]):∃n,v= .bool n:=by
 obtain⟨n,e⟩:=Rdz.bool_ Tryz.underlying4 h
 cases e
 exact⟨n,rfl⟩
theorem Zo4 (h:Rdz enc Tryz.prog w base spare held 95 row):∃o:HOp,row=o.cells∧o.ok:=by
 obtain⟨hl,hf⟩:=h.struct_ Tryz.underlying95;rw[Zoi]at hl;obtain⟨c0,c1,c2,c3,rfl⟩:=cs4 hl;have h0:Rdz enc Tryz.prog w base spare held 4 (([c0,c1,c2,c3].drop 0).take (Tryz.prog.cellsOf 4)):=hf 0 _ rfl;have h1:Rdz enc Tryz.prog w base spare held 3 (([c0,c1,c2,c3].drop 1).take (Tryz.prog.cellsOf 3)):=hf 1 _ rfl;have h2:Rdz enc Tryz.prog w base spare held 3 (([c0,c1,c2,c3].drop 2).take (Tryz.prog.cellsOf 3)):=hf 2 _ rfl;have h3:Rdz enc Tryz.prog w base spare held 3 (([c0,c1,c2,c3].drop 3).take (Tryz.prog.cellsOf 3)):=hf 3 _ rfl;rw[Zhn]at h1 h2 h3;rw[Zln]at h0;obtain⟨n0,rfl⟩:=rhb h0;obtain⟨n1,rfl,b1⟩:=rhi h1;obtain⟨n2,rfl,b2⟩:=rhi h2;obtain⟨n3,rfl,b3⟩:=rhi h3;exact⟨⟨n0,n1,n2,n3⟩,rfl,b1,b2,b3⟩
theorem Zou {v:Value} (h:Rdz enc Tryz.prog w base spare held 79 [v]):∃(A:Option Addr) (c:Nat) (l:List HOp),v= .slice A l.length c∧HOps (fun _=>True) w A l∧l.length≤c∧Zg l.length∧∀o∈l,o.ok:=by
 rcases h.slice_ Tryz.underlying79 Zoi (by omega)with h|⟨a,len,cap,rows,hv,hl,hm,hlen,hz,hrec,hrow⟩
 ·cases h
  exact⟨none,0,[],rfl,fun h=>absurd rfl h,by simp,by unfold Zg;simp,fun e he=>by simp at he⟩
 ·cases hv
  obtain⟨l,rfl,hok⟩:=Zdj (f:=HOp.cells) (Q:=HOp.ok) fun row hr=>Zo4 (hrow row hr).2
  rw[List.length_map]at hlen;subst hlen;rw[Zpo]at hz;unfold reachBytes at hz;exact⟨some a,cap,l,rfl,hrec,hl,by unfold Zg;omega,hok⟩
theorem ZnJ {v:Value} (h:Rdz enc Tryz.prog w base spare held 64 [v]):∃(A:Option Addr) (c:Nat) (l:List Int),v= .slice A l.length c∧Ints (fun _=>True) w A l∧l.length≤c∧l.length≤17592186044415∧∀n∈l,i64 n:=by
 rcases h.slice_ Tryz.underlying64 Zhn (by omega)with h|⟨a,len,cap,rows,hv,hl,hm,hlen,hz,hrec,hrow⟩
 ·cases h
  exact⟨none,0,[],rfl,fun h=>absurd rfl h,by simp,by simp,fun e he=>by simp at he⟩
 ·cases hv
  obtain⟨l,rfl,hok⟩:=Zdj (f:=fun n:Int=>[Value.int .i64 n]) (Q:=i64) fun row hr=>by
   obtain⟨h1,h2⟩:=hrow row hr;obtain⟨a,rfl⟩:=cs1 h1;obtain⟨n,rfl,hn⟩:=rhi h2;exact⟨n,rfl,hn⟩
  rw[List.length_map]at hlen;subst hlen;rw[ZoW]at hz;unfold reachBytes at hz;refine⟨some a,cap,l,rfl,fun hne=> ?_,hl,by omega,hok⟩;obtain⟨ad,e,hf,hb,hc⟩:=hrec (by simpa using hne);refine⟨ad,e,hf,hb,fun j v hj=> ?_⟩;have:=hc j [.int .i64 v] (by rw[List.getElem?_map,hj];rfl) 0 (.int .i64 v) rfl
  simpa using this
theorem Zo3 (h:Rdz enc Tryz.prog w base spare held 81 row):∃t:HTx,row=t.cells∧t.lies (fun _=>True) w:=by
 obtain⟨hl,hf⟩:=h.struct_ Tryz.underlying81;rw[Zog]at hl;obtain⟨c0,c1,c2,rfl⟩:=cs3 hl;have h0:Rdz enc Tryz.prog w base spare held 3 (([c0,c1,c2].drop 0).take (Tryz.prog.cellsOf 3)):=hf 0 _ rfl;have h1:Rdz enc Tryz.prog w base spare held 4 (([c0,c1,c2].drop 1).take (Tryz.prog.cellsOf 4)):=hf 1 _ rfl;have h2:Rdz enc Tryz.prog w base spare held 79 (([c0,c1,c2].drop 2).take (Tryz.prog.cellsOf 79)):=hf 2 _ rfl;rw[Zhn]at h0;rw[Zln]at h1;rw[ZoU]at h2;obtain⟨n0,rfl,b0⟩:=rhi h0;obtain⟨n1,rfl⟩:=rhb h1;obtain⟨A,c,l,rfl,hh,hc,hs,hok⟩:=Zou h2;exact⟨⟨n0,n1,l,A,c⟩,rfl,hh,hc,hs,b0,hok⟩
theorem Zot (h:Rdz enc Tryz.prog w base spare held 100 row):∃o:HOrd,row=o.cells∧o.lies (fun _=>True) w:=by
 obtain⟨hl,hf⟩:=h.struct_ Tryz.underlying100;rw[ZmI]at hl;obtain⟨c0,c1,rfl⟩:=cs2 hl;have h0:Rdz enc Tryz.prog w base spare held 3 (([c0,c1].drop 0).take (Tryz.prog.cellsOf 3)):=hf 0 _ rfl;have h1:Rdz enc Tryz.prog w base spare held 64 (([c0,c1].drop 1).take (Tryz.prog.cellsOf 64)):=hf 1 _ rfl;rw[Zhn]at h0;rw[Zoj]at h1;obtain⟨n0,rfl,b0⟩:=rhi h0;obtain⟨A,c,l,rfl,hh,hc,hs,hok⟩:=ZnJ h1;exact⟨⟨n0,l,A,c⟩,rfl,hh,hc,hs,b0,hok⟩
theorem Zmr (h:Rdz enc Tryz.prog w base spare held 29 row):∃x:Hist,row=x.cells∧x.lies (fun _=>True) w:=by
 obtain⟨hl,hf⟩:=h.struct_ Tryz.underlying29;rw[Zok]at hl;obtain⟨c0,c1,rfl⟩:=cs2 hl;have h0:Rdz enc Tryz.prog w base spare held 26 (([c0,c1].drop 0).take (Tryz.prog.cellsOf 26)):=hf 0 _ rfl;have h1:Rdz enc Tryz.prog w base spare held 27 (([c0,c1].drop 1).take (Tryz.prog.cellsOf 27)):=hf 1 _ rfl;rw[ZoT]at h0;rw[Zoh]at h1;clear hl
 have q0:∃(A:Option Addr) (c:Nat) (l:List HTx),c0= .slice A l.length c∧Recs (fun _=>True) w A 3 (l.map HTx.cells)∧l.length≤c∧l.length≤4398046511103∧∀t∈l,t.lies (fun _=>True) w:=by
  have h0':Rdz enc Tryz.prog w base spare held 26 [c0]:=h0;rcases h0'.slice_ Tryz.underlying26 Zog (by omega)with h|⟨a,len,cap,rows,hv,hl,hm,hlen,hz,hrec,hrow⟩
  ·cases h
   exact⟨none,0,[],rfl,fun h=>absurd rfl h,by simp,by simp,fun e he=>by simp at he⟩
  ·cases hv
   obtain⟨l,rfl,hok⟩:=Zdj (f:=HTx.cells) (Q:=fun t=>t.lies (fun _=>True) w) fun row hr=>Zo3 (hrow row hr).2
   rw[List.length_map]at hlen;subst hlen;rw[Zpn]at hz;unfold reachBytes at hz;exact⟨some a,cap,l,rfl,hrec,hl,by omega,hok⟩
 have q1:∃(A:Option Addr) (c:Nat) (l:List HOrd),c1= .slice A l.length c∧Recs (fun _=>True) w A 2 (l.map HOrd.cells)∧l.length≤c∧l.length≤4398046511103∧∀t∈l,t.lies (fun _=>True) w:=by
  have h1':Rdz enc Tryz.prog w base spare held 27 [c1]:=h1;rcases h1'.slice_ Tryz.underlying27 ZmI (by omega)with h|⟨a,len,cap,rows,hv,hl,hm,hlen,hz,hrec,hrow⟩
  ·cases h
   exact⟨none,0,[],rfl,fun h=>absurd rfl h,by simp,by simp,fun e he=>by simp at he⟩
  ·cases hv
   obtain⟨l,rfl,hok⟩:=Zdj (f:=HOrd.cells) (Q:=fun t=>t.lies (fun _=>True) w) fun row hr=>Zot (hrow row hr).2
   rw[List.length_map]at hlen;subst hlen;rw[ZoV]at hz;unfold reachBytes at hz;exact⟨some a,cap,l,rfl,hrec,hl,by omega,hok⟩
 obtain⟨A,c,l,rfl,r1,r2,r3,r4⟩:=q0;obtain⟨B,d,m,rfl,s1,s2,s3,s4⟩:=q1;exact⟨⟨l,m,A,c,B,d⟩,rfl,r1,s1,r4,s4,r2,s2,r3,s3⟩
end
end
end Go.Proofs.YtblplapkdmhikaaGreat
