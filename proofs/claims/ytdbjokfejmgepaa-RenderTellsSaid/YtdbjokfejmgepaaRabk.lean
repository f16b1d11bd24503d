/- How verdicts, witnesses and slices of strings that come in read. -/
import Derived.Test.YtdbjokfejmgepaaRaat
import Derived.Test.YtdbjokfejmgepaaRaau
import Derived.Test.YtdbjokfejmgepaaRaaw
import Derived.Test.YtdbjokfejmgepaaRaaz
namespace Go.Proofs.Ytdbjokfejmgepaa
set_option linter.unusedVariables false
set_option linter.unusedSimpArgs false
section
open Go.RowKit
theorem ZnD:Try.prog.cellsOf 9=1:=by kernel_rfl
theorem ZnF:Try.prog.bytesOf 9=16:=by kernel_rfl
theorem ZmO:Try.prog.cellsOf 25=7:=by kernel_rfl
section
variable {H:Type} {enc:TypeId×Value→H} {w:World} {base:Nat} {spare:Nat→Bool} {held:Bool} {row:List Value}
theorem Zm8 {v:Value} (h:Rdz enc Try.prog w base spare held 9 [v]):∃s:ByteArray,v= .string s:=by
 obtain⟨n,y,h,_⟩:=h;obtain⟨a,e,_⟩:=DataW.trod_string Try.underlying9 h
 cases e
 exact⟨a,rfl⟩
theorem Zmb {v:Value} (h:Rdz enc Try.prog w base spare held 40 [v]):∃(A:Option Addr) (c:Nat) (l:List ByteArray),v= .slice A l.length c∧Zdb (fun _=>True) w A l∧l.length≤c∧l.length≤8796093022207:=by
 rcases h.slice_ Try.underlying40 ZnD (by omega)with h|⟨a,len,cap,rows,hv,hl,hm,hlen,hz,hrec,hrow⟩
 ·cases h
  exact⟨none,0,[],rfl,fun h=>absurd rfl h,by simp,by simp⟩
 ·cases hv
  obtain⟨l,rfl,hok⟩:=Zb1 (f:=fun s:ByteArray=>[Value.string s]) (Q:=fun _=>True) fun row hr=>by
   obtain⟨h1,h2⟩:=hrow row hr;obtain⟨a,rfl⟩:=cs1 h1;obtain⟨s,rfl⟩:=Zm8 h2;exact⟨s,rfl,trivial⟩
  rw[List.length_map]at hlen;subst hlen;rw[ZnF]at hz;unfold reachBytes at hz;refine⟨some a,cap,l,rfl,fun hne=> ?_,hl,by omega⟩;obtain⟨ad,e,hf,hb,hc⟩:=hrec (by simpa using hne);refine⟨ad,e,hf,hb,fun j v hj=> ?_⟩;have:=hc j [.string v] (by rw[List.getElem?_map,hj];rfl) 0 (.string v) rfl
  simpa using this
theorem Zma (h:Rdz enc Try.prog w base spare held 25 row):∃(b0 b1 b2 b3 b4 b5:Bool) (l:Int),row=[.bool b0,.bool b1,.bool b2,.bool b3,.bool b4,.bool b5,.int .i64 l]∧i64 l:=by
 obtain⟨hl,hf⟩:=h.struct_ Try.underlying25;rw[ZmO]at hl;obtain⟨c0,c1,c2,c3,c4,c5,c6,rfl⟩:=cs7 hl;have h0:Rdz enc Try.prog w base spare held 23 (([c0,c1,c2,c3,c4,c5,c6].drop 0).take (Try.prog.cellsOf 23)):=hf 0 _ rfl;have h1:Rdz enc Try.prog w base spare held 3 (([c0,c1,c2,c3,c4,c5,c6].drop 6).take (Try.prog.cellsOf 3)):=hf 1 _ rfl;rw[Zj3]at h0;rw[ZcC]at h1;obtain⟨b0,b1,b2,b3,b4,b5,e⟩:=Zml h0;obtain⟨n,rfl,hn⟩:=rhi h1
 cases e
 exact⟨b0,b1,b2,b3,b4,b5,n,rfl,hn⟩
theorem Zmc (h:Rdz enc Try.prog w base spare held 89 row):∃e:Edge,row=e.cells∧e.ok:=by
 obtain⟨hl,hf⟩:=h.struct_ Try.underlying89;rw[Zj1]at hl;obtain⟨c0,c1,c2,c3,rfl⟩:=cs4 hl;have h0:Rdz enc Try.prog w base spare held 3 (([c0,c1,c2,c3].drop 0).take (Try.prog.cellsOf 3)):=hf 0 _ rfl;have h1:Rdz enc Try.prog w base spare held 3 (([c0,c1,c2,c3].drop 1).take (Try.prog.cellsOf 3)):=hf 1 _ rfl;have h2:Rdz enc Try.prog w base spare held 3 (([c0,c1,c2,c3].drop 2).take (Try.prog.cellsOf 3)):=hf 2 _ rfl;have h3:Rdz enc Try.prog w base spare held 3 (([c0,c1,c2,c3].drop 3).take (Try.prog.cellsOf 3)):=hf 3 _ rfl;rw[ZcC]at h0 h1 h2 h3;obtain⟨n0,rfl,b0⟩:=rhi h0;obtain⟨n1,rfl,b1⟩:=rhi h1;obtain⟨n2,rfl,b2⟩:=rhi h2;obtain⟨n3,rfl,b3⟩:=rhi h3;exact⟨⟨n0,n1,n2,n3⟩,rfl,b0,b1,b3⟩
theorem Zl9 {v:Value} (h:Rdz enc Try.prog w base spare held 26 [v]):∃(A:Option Addr) (c:Nat) (l:List Edge),v= .slice A l.length c∧Walk (fun _=>True) w A l∧l.length≤c∧l.length≤4398046511103∧∀e∈l,e.ok:=by
 rcases h.slice_ Try.underlying26 Zj1 (by omega)with h|⟨a,len,cap,rows,hv,hl,hm,hlen,hz,hrec,hrow⟩
 ·cases h
  exact⟨none,0,[],rfl,fun h=>absurd rfl h,by simp,by simp,fun e he=>by cases he⟩
 ·cases hv
  obtain⟨l,rfl,hok⟩:=Zb1 (f:=Edge.cells) (Q:=Edge.ok) fun row hr=>Zmc (hrow row hr).2
  rw[List.length_map]at hlen;subst hlen;rw[ZmU]at hz;unfold reachBytes at hz;exact⟨some a,cap,l,rfl,hrec,hl,by omega,hok⟩
theorem Zm7 (h:Rdz enc Try.prog w base spare held 28 row):∃a b c:Int,row=[.int .i64 a,.int .i64 b,.int .i64 c]∧i64 a∧i64 b∧i64 c:=by
 obtain⟨hl,hf⟩:=h.struct_ Try.underlying28;rw[Zlb]at hl;obtain⟨c0,c1,c2,rfl⟩:=cs3 hl;have h0:Rdz enc Try.prog w base spare held 3 (([c0,c1,c2].drop 0).take (Try.prog.cellsOf 3)):=hf 0 _ rfl;have h1:Rdz enc Try.prog w base spare held 3 (([c0,c1,c2].drop 1).take (Try.prog.cellsOf 3)):=hf 1 _ rfl;have h2:Rdz enc Try.prog w base spare held 3 (([c0,c1,c2].drop 2).take (Try.prog.cellsOf 3)):=hf 2 _ rfl;rw[ZcC]at h0 h1 h2;obtain⟨n0,rfl,b0⟩:=rhi h0;obtain⟨n1,rfl,b1⟩:=rhi h1;obtain⟨n2,rfl,b2⟩:=rhi h2;exact⟨n0,n1,n2,rfl,b0,b1,b2⟩
theorem Zm9 (h:Rdz enc Try.prog w base spare held 30 row):∃a b c d e:Int,row=[.int .i64 a,.int .i64 b,.int .i64 c,.int .i64 d,.int .i64 e]∧i64 a∧i64 b∧i64 c∧i64 d∧i64 e:=by
 obtain⟨hl,hf⟩:=h.struct_ Try.underlying30;rw[Zld]at hl;obtain⟨c0,c1,c2,c3,c4,rfl⟩:=cs5 hl;have h0:Rdz enc Try.prog w base spare held 3 (([c0,c1,c2,c3,c4].drop 0).take (Try.prog.cellsOf 3)):=hf 0 _ rfl;have h1:Rdz enc Try.prog w base spare held 3 (([c0,c1,c2,c3,c4].drop 1).take (Try.prog.cellsOf 3)):=hf 1 _ rfl;have h2:Rdz enc Try.prog w base spare held 28 (([c0,c1,c2,c3,c4].drop 2).take (Try.prog.cellsOf 28)):=hf 2 _ rfl;rw[ZcC]at h0 h1;rw[Zlb]at h2;obtain⟨n0,rfl,b0⟩:=rhi h0;obtain⟨n1,rfl,b1⟩:=rhi h1;obtain⟨n2,n3,n4,e,b2⟩:=Zm7 h2
 cases e
 exact⟨n0,n1,n2,n3,n4,rfl,b0,b1,b2⟩
theorem Zm6 (h:Rdz enc Try.prog w base spare held 32 row):∃(p:Int) (X:Option Addr) (xc:Nat) (l:List Edge) (a b c d e:Int),row=[.int .i64 p,.slice X l.length xc,.int .i64 a,.int .i64 b,.int .i64 c,.int .i64 d,.int .i64 e]∧Walk (fun _=>True) w X l∧l.length≤xc∧l.length≤4398046511103∧(∀e∈l,e.ok)∧i64 a∧i64 b∧i64 c∧i64 d∧i64 e:=by
 obtain⟨hl,hf⟩:=h.struct_ Try.underlying32;rw[ZnB]at hl;obtain⟨c0,c1,c2,c3,c4,c5,c6,rfl⟩:=cs7 hl;have h0:Rdz enc Try.prog w base spare held 3 (([c0,c1,c2,c3,c4,c5,c6].drop 0).take (Try.prog.cellsOf 3)):=hf 0 _ rfl;have h1:Rdz enc Try.prog w base spare held 26 (([c0,c1,c2,c3,c4,c5,c6].drop 1).take (Try.prog.cellsOf 26)):=hf 1 _ rfl;have h2:Rdz enc Try.prog w base spare held 30 (([c0,c1,c2,c3,c4,c5,c6].drop 2).take (Try.prog.cellsOf 30)):=hf 2 _ rfl;rw[ZcC]at h0;rw[ZlT]at h1;rw[Zld]at h2;obtain⟨n0,rfl,b0⟩:=rhi h0;obtain⟨X,xc,l,rfl,hw,hc,hs,hok⟩:=Zl9 h1;obtain⟨n2,n3,n4,n5,n6,e,hb⟩:=Zm9 h2
 cases e
 exact⟨n0,X,xc,l,n2,n3,n4,n5,n6,rfl,hw,hc,hs,hok,hb⟩
end
end
end Go.Proofs.Ytdbjokfejmgepaa
