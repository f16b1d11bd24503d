/- How histories that come in read. -/
import Derived.Test.YtdbjokfejmgepaaRaah
import Derived.Test.YtdbjokfejmgepaaRaan
namespace Go.Proofs.Ytdbjokfejmgepaa
set_option linter.unusedVariables false
set_option linter.unusedSimpArgs false
section
open Go.RowKit
theorem cs4 {l:List Value} (h:l.length=4):∃a b c d,l=[a,b,c,d]:=
 match l,h with
 |[a,b,c,d],_=>⟨a,b,c,d,rfl⟩
theorem cs3 {l:List Value} (h:l.length=3):∃a b c,l=[a,b,c]:=
 match l,h with
 |[a,b,c],_=>⟨a,b,c,rfl⟩
theorem cs2 {l:List Value} (h:l.length=2):∃a b,l=[a,b]:=
 match l,h with
 |[a,b],_=>⟨a,b,rfl⟩
theorem cs1 {l:List Value} (h:l.length=1):∃a,l=[a]:=
 match l,h with
 |[a],_=>⟨a,rfl⟩
theorem ZgZ {n:Int} (h:(Lit.int .i64 n).wf=true):i64 n:=by
 unfold i64;simp[Lit.wf,IntKind.min,IntKind.max,IntKind.signed,IntKind.bits]at h;omega
theorem ZcC:Try.prog.cellsOf 3=1:=by kernel_rfl
theorem Zj2:Try.prog.cellsOf 4=1:=by kernel_rfl
theorem ZmR:Try.prog.cellsOf 58=4:=by kernel_rfl
theorem Zoc:Try.prog.bytesOf 58=32:=by kernel_rfl
theorem ZnE:Try.prog.cellsOf 33=1:=by kernel_rfl
theorem ZmP:Try.prog.cellsOf 35=3:=by kernel_rfl
theorem Zob:Try.prog.bytesOf 35=40:=by kernel_rfl
theorem ZnC:Try.prog.cellsOf 36=1:=by kernel_rfl
theorem ZmS:Try.prog.cellsOf 50=1:=by kernel_rfl
theorem ZnH:Try.prog.bytesOf 3=8:=by kernel_rfl
theorem Zlc:Try.prog.cellsOf 52=2:=by kernel_rfl
theorem ZnG:Try.prog.bytesOf 52=32:=by kernel_rfl
theorem ZmQ:Try.prog.cellsOf 37=1:=by kernel_rfl
theorem ZmT:Try.prog.cellsOf 39=2:=by kernel_rfl
section
variable {H:Type} {enc:TypeId×Value→H} {w:World} {base:Nat} {spare:Nat→Bool} {held:Bool} {row:List Value}
theorem rhi {v:Value} (h:Rdz enc Try.prog w base spare held 3 [v]):∃n,v= .int .i64 n∧i64 n:=by
 obtain⟨n,e,hw⟩:=Rdz.int_ Try.underlying3 h
 cases e
 exact⟨n,rfl,ZgZ hw⟩
theorem rhb {v:Value} (h:Rdz enc Try.prog w base spare held 4 [v]):∃n,v= .bool n:=by
 obtain⟨n,e⟩:=Rdz.bool_ Try.underlying4 h
 cases e
 exact⟨n,rfl⟩
theorem ZnP (h:Rdz enc Try.prog w base spare held 58 row):∃o:HOp,row=o.cells∧o.ok:=by
 obtain⟨hl,hf⟩:=h.struct_ Try.underlying58;rw[ZmR]at hl;obtain⟨c0,c1,c2,c3,rfl⟩:=cs4 hl;have h0:Rdz enc Try.prog w base spare held 4 (([c0,c1,c2,c3].drop 0).take (Try.prog.cellsOf 4)):=hf 0 _ rfl;have h1:Rdz enc Try.prog w base spare held 3 (([c0,c1,c2,c3].drop 1).take (Try.prog.cellsOf 3)):=hf 1 _ rfl;have h2:Rdz enc Try.prog w base spare held 3 (([c0,c1,c2,c3].drop 2).take (Try.prog.cellsOf 3)):=hf 2 _ rfl;have h3:Rdz enc Try.prog w base spare held 3 (([c0,c1,c2,c3].drop 3).take (Try.prog.cellsOf 3)):=hf 3 _ rfl;rw[ZcC]at h1 h2 h3;rw[Zj2]at h0;obtain⟨n0,rfl⟩:=rhb h0;obtain⟨n1,rfl,b1⟩:=rhi h1;obtain⟨n2,rfl,b2⟩:=rhi h2;obtain⟨n3,rfl,b3⟩:=rhi h3;exact⟨⟨n0,n1,n2,n3⟩,rfl,b1,b2,b3⟩
theorem Znf {v:Value} (h:Rdz enc Try.prog w base spare held 33 [v]):∃(A:Option Addr) (c:Nat) (l:List HOp),v= .slice A l.length c∧HOps (fun _=>True) w A l∧l.length≤c∧Zy l.length∧∀o∈l,o.ok:=by
 rcases h.slice_ Try.underlying33 ZmR (by omega)with h|⟨a,len,cap,rows,hv,hl,hm,hlen,hz,hrec,hrow⟩
 ·cases h
  exact⟨none,0,[],rfl,fun h=>absurd rfl h,by simp,by unfold Zy;simp,fun e he=>by simp at he⟩
 ·cases hv
  obtain⟨l,rfl,hok⟩:=Zb1 (f:=HOp.cells) (Q:=HOp.ok) fun row hr=>ZnP (hrow row hr).2
  rw[List.length_map]at hlen;subst hlen;rw[Zoc]at hz;unfold reachBytes at hz;exact⟨some a,cap,l,rfl,hrec,hl,by unfold Zy;omega,hok⟩
theorem Zmk {v:Value} (h:Rdz enc Try.prog w base spare held 50 [v]):∃(A:Option Addr) (c:Nat) (l:List Int),v= .slice A l.length c∧Ints (fun _=>True) w A l∧l.length≤c∧l.length≤17592186044415∧∀n∈l,i64 n:=by
 rcases h.slice_ Try.underlying50 ZcC (by omega)with h|⟨a,len,cap,rows,hv,hl,hm,hlen,hz,hrec,hrow⟩
 ·cases h
  exact⟨none,0,[],rfl,fun h=>absurd rfl h,by simp,by simp,fun e he=>by simp at he⟩
 ·cases hv
  obtain⟨l,rfl,hok⟩:=Zb1 (f:=fun n:Int=>[Value.int .i64 n]) (Q:=i64) fun row hr=>by
   obtain⟨h1,h2⟩:=hrow row hr;obtain⟨a,rfl⟩:=cs1 h1;obtain⟨n,rfl,hn⟩:=rhi h2;exact⟨n,rfl,hn⟩
  rw[List.length_map]at hlen;subst hlen;rw[ZnH]at hz;unfold reachBytes at hz;refine⟨some a,cap,l,rfl,fun hne=> ?_,hl,by omega,hok⟩;obtain⟨ad,e,hf,hb,hc⟩:=hrec (by simpa using hne);refine⟨ad,e,hf,hb,fun j v hj=> ?_⟩;have:=hc j [.int .i64 v] (by rw[List.getElem?_map,hj];rfl) 0 (.int .i64 v) rfl
  simpa using this
theorem Zmj (h:Rdz enc Try.prog w base spare held 35 row):∃t:HTx,row=t.cells∧t.lies (fun _=>True) w:=by
 obtain⟨hl,hf⟩:=h.struct_ Try.underlying35;rw[ZmP]at hl;obtain⟨c0,c1,c2,rfl⟩:=cs3 hl;have h0:Rdz enc Try.prog w base spare held 3 (([c0,c1,c2].drop 0).take (Try.prog.cellsOf 3)):=hf 0 _ rfl;have h1:Rdz enc Try.prog w base spare held 4 (([c0,c1,c2].drop 1).take (Try.prog.cellsOf 4)):=hf 1 _ rfl;have h2:Rdz enc Try.prog w base spare held 33 (([c0,c1,c2].drop 2).take (Try.prog.cellsOf 33)):=hf 2 _ rfl;rw[ZcC]at h0;rw[Zj2]at h1;rw[ZnE]at h2;obtain⟨n0,rfl,b0⟩:=rhi h0;obtain⟨n1,rfl⟩:=rhb h1;obtain⟨A,c,l,rfl,hh,hc,hs,hok⟩:=Znf h2;exact⟨⟨n0,n1,l,A,c⟩,rfl,hh,hc,hs,b0,hok⟩
theorem Zne (h:Rdz enc Try.prog w base spare held 52 row):∃o:HOrd,row=o.cells∧o.lies (fun _=>True) w:=by
 obtain⟨hl,hf⟩:=h.struct_ Try.underlying52;rw[Zlc]at hl;obtain⟨c0,c1,rfl⟩:=cs2 hl;have h0:Rdz enc Try.prog w base spare held 3 (([c0,c1].drop 0).take (Try.prog.cellsOf 3)):=hf 0 _ rfl;have h1:Rdz enc Try.prog w base spare held 50 (([c0,c1].drop 1).take (Try.prog.cellsOf 50)):=hf 1 _ rfl;rw[ZcC]at h0;rw[ZmS]at h1;obtain⟨n0,rfl,b0⟩:=rhi h0;obtain⟨A,c,l,rfl,hh,hc,hs,hok⟩:=Zmk h1;exact⟨⟨n0,l,A,c⟩,rfl,hh,hc,hs,b0,hok⟩
theorem Zng (h:Rdz enc Try.prog w base spare held 39 row):∃x:Hist,row=x.cells∧x.lies (fun _=>True) w:=by
 obtain⟨hl,hf⟩:=h.struct_ Try.underlying39;rw[ZmT]at hl;obtain⟨c0,c1,rfl⟩:=cs2 hl;have h0:Rdz enc Try.prog w base spare held 36 (([c0,c1].drop 0).take (Try.prog.cellsOf 36)):=hf 0 _ rfl;have h1:Rdz enc Try.prog w base spare held 37 (([c0,c1].drop 1).take (Try.prog.cellsOf 37)):=hf 1 _ rfl;rw[ZnC]at h0;rw[ZmQ]at h1;clear hl
 have q0:∃(A:Option Addr) (c:Nat) (l:List HTx),c0= .slice A l.length c∧Recs (fun _=>True) w A 3 (l.map HTx.cells)∧l.length≤c∧l.length≤4398046511103∧∀t∈l,t.lies (fun _=>True) w:=by
  have h0':Rdz enc Try.prog w base spare held 36 [c0]:=h0;rcases h0'.slice_ Try.underlying36 ZmP (by omega)with h|⟨a,len,cap,rows,hv,hl,hm,hlen,hz,hrec,hrow⟩
  ·cases h
   exact⟨none,0,[],rfl,fun h=>absurd rfl h,by simp,by simp,fun e he=>by simp at he⟩
  ·cases hv
   obtain⟨l,rfl,hok⟩:=Zb1 (f:=HTx.cells) (Q:=fun t=>t.lies (fun _=>True) w) fun row hr=>Zmj (hrow row hr).2
   rw[List.length_map]at hlen;subst hlen;rw[Zob]at hz;unfold reachBytes at hz;exact⟨some a,cap,l,rfl,hrec,hl,by omega,hok⟩
 have q1:∃(A:Option Addr) (c:Nat) (l:List HOrd),c1= .slice A l.length c∧Recs (fun _=>True) w A 2 (l.map HOrd.cells)∧l.length≤c∧l.length≤4398046511103∧∀t∈l,t.lies (fun _=>True) w:=by
  have h1':Rdz enc Try.prog w base spare held 37 [c1]:=h1;rcases h1'.slice_ Try.underlying37 Zlc (by omega)with h|⟨a,len,cap,rows,hv,hl,hm,hlen,hz,hrec,hrow⟩
  ·cases h
   exact⟨none,0,[],rfl,fun h=>absurd rfl h,by simp,by simp,fun e he=>by simp at he⟩
  ·cases hv
   obtain⟨l,rfl,hok⟩:=Zb1 (f:=HOrd.cells) (Q:=fun t=>t.lies (fun _=>True) w) fun row hr=>Zne (hrow row hr).2
   rw[List.length_map]at hlen;subst hlen;rw[ZnG]at hz;unfold reachBytes at hz;exact⟨some a,cap,l,rfl,hrec,hl,by omega,hok⟩
 obtain⟨A,c,l,rfl,r1,r2,r3,r4⟩:=q0;obtain⟨B,d,m,rfl,s1,s2,s3,s4⟩:=q1;exact⟨⟨l,m,A,c,B,d⟩,rfl,r1,s1,r4,s4,r2,s2,r3,s3⟩
end
end
/- How witnesses that come in read. -/
section
open Go.RowKit
theorem cs5 {l:List Value} (h:l.length=5):∃a b c d e,l=[a,b,c,d,e]:=
 match l,h with
 |[a,b,c,d,e],_=>⟨a,b,c,d,e,rfl⟩
theorem cs7 {l:List Value} (h:l.length=7):∃a b c d e f g,l=[a,b,c,d,e,f,g]:=
 match l,h with
 |[a,b,c,d,e,f,g],_=>⟨a,b,c,d,e,f,g,rfl⟩
theorem Zj1:Try.prog.cellsOf 89=4:=by kernel_rfl
theorem ZmU:Try.prog.bytesOf 89=32:=by kernel_rfl
theorem ZlT:Try.prog.cellsOf 26=1:=by kernel_rfl
theorem Zlb:Try.prog.cellsOf 28=3:=by kernel_rfl
theorem Zld:Try.prog.cellsOf 30=5:=by kernel_rfl
theorem ZnB:Try.prog.cellsOf 32=7:=by kernel_rfl
section
variable {H:Type} {enc:TypeId×Value→H} {w:World} {base:Nat} {spare:Nat→Bool} {held:Bool} {row:List Value}
end
end
end Go.Proofs.Ytdbjokfejmgepaa
