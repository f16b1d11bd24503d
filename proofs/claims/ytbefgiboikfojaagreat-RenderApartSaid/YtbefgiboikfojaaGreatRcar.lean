/- How histories that come in read. -/
import Derived.Test.YtbefgiboikfojaaGreatRcae
import Derived.Test.YtbefgiboikfojaaGreatRcal
namespace Go.Proofs.YtbefgiboikfojaaGreat
open Go.RowKit
set_option linter.unusedVariables false
set_option linter.unusedSimpArgs false
theorem cs4{l:Gl}(h:l.length=4):∃a b c d,l=[a,b,c,d]:=
 match l,h with
 |[a,b,c,d],_=>⟨a,b,c,d,rfl⟩
theorem cs3{l:Gl}(h:l.length=3):∃a b c,l=[a,b,c]:=
 match l,h with
 |[a,b,c],_=>⟨a,b,c,rfl⟩
theorem cs2{l:Gl}(h:l.length=2):∃a b,l=[a,b]:=
 match l,h with
 |[a,b],_=>⟨a,b,rfl⟩
theorem cs1{l:Gl}(h:l.length=1):∃a,l=[a]:=
 match l,h with
 |[a],_=>⟨a,rfl⟩
theorem ZtM{n:Int}(h:(Lit.int .i64 n).wf=true):i64 n:=by
 unfold i64;simp[Lit.wf,IntKind.min,IntKind.max,IntKind.signed,IntKind.bits]at h;omega
theorem Zjx:Tryz.prog.cellsOf 3=1:=by kernel_rfl
theorem ZqC:Tryz.prog.cellsOf 4=1:=by kernel_rfl
theorem ZuU:Tryz.prog.cellsOf 50=4:=by kernel_rfl
theorem ZwH:Tryz.prog.bytesOf 50=32:=by kernel_rfl
theorem ZvZ:Tryz.prog.cellsOf 51=1:=by kernel_rfl
theorem ZuS:Tryz.prog.cellsOf 53=3:=by kernel_rfl
theorem ZwG:Tryz.prog.bytesOf 53=40:=by kernel_rfl
theorem ZvY:Tryz.prog.cellsOf 26=1:=by kernel_rfl
theorem ZuV:Tryz.prog.cellsOf 57=1:=by kernel_rfl
theorem Zv1:Tryz.prog.bytesOf 3=8:=by kernel_rfl
theorem ZsF:Tryz.prog.cellsOf 59=2:=by kernel_rfl
theorem Zv0:Tryz.prog.bytesOf 59=32:=by kernel_rfl
theorem ZuT:Tryz.prog.cellsOf 27=1:=by kernel_rfl
theorem ZuW:Tryz.prog.cellsOf 29=2:=by kernel_rfl
section
variable {H:Type} {enc:Gx×Gz->H} {w:Gy} {base:Nat} {spare:Nat->Bool} {held:Bool} {row:Gl}
theorem rhi{v:Gz}(h:Rdz enc Tryz.prog w base spare held 3 [v]):∃n,v= Qi n∧i64 n:=by
 obtain⟨n,e,hw⟩:=Rdz.int_ Tryz.underlying3 h
 cases e
 exact⟨n,rfl,ZtM hw⟩
theorem rhb{v:Gz}(h:Rdz enc Tryz.prog w base spare held 4 [v]):∃n,v= .bool n:=by
 obtain⟨n,e⟩:=Rdz.bool_ Tryz.underlying4 h
 cases e
 exact⟨n,rfl⟩
theorem Zwa(h:Rdz enc Tryz.prog w base spare held 50 row):∃o:HOp,row=o.cells∧o.ok:=by
 obtain⟨hl,hf⟩:=h.struct_ Tryz.underlying50;rw[ZuU]at hl;obtain⟨c0,c1,c2,c3,rfl⟩:=cs4 hl;have h0:Rdz enc Tryz.prog w base spare held 4 (([c0,c1,c2,c3].drop 0).take (Tryz.prog.cellsOf 4)):=hf 0 _ rfl;have h1:Rdz enc Tryz.prog w base spare held 3 (([c0,c1,c2,c3].drop 1).take (Tryz.prog.cellsOf 3)):=hf 1 _ rfl;have h2:Rdz enc Tryz.prog w base spare held 3 (([c0,c1,c2,c3].drop 2).take (Tryz.prog.cellsOf 3)):=hf 2 _ rfl;have h3:Rdz enc Tryz.prog w base spare held 3 (([c0,c1,c2,c3].drop 3).take (Tryz.prog.cellsOf 3)):=hf 3 _ rfl;rw[Zjx]at h1 h2 h3;rw[ZqC]at h0;obtain⟨n0,rfl⟩:=rhb h0;obtain⟨n1,rfl,b1⟩:=rhi h1;obtain⟨n2,rfl,b2⟩:=rhi h2;obtain⟨n3,rfl,b3⟩:=rhi h3;exact⟨⟨n0,n1,n2,n3⟩,rfl,b1,b2,b3⟩
theorem Zvc{v:Gz}(h:Rdz enc Tryz.prog w base spare held 51 [v]):∃(A:OA) (c:Nat) (l:Gu),v= .slice A l.length c∧HOps (fun _=>True) w A l∧l.length<=c∧Zp l.length∧∀o∈l,o.ok:=by
 rcases h.slice_ Tryz.underlying51 ZuU (by omega)with h|⟨a,len,cap,rows,hv,hl,hm,hlen,hz,gK,hrow⟩
 ·cases h
  exact⟨none,0,[],rfl,fun h=>absurd rfl h,by simp,by unfold Zp;simp,fun e he=>by simp at he⟩
 ·cases hv
  obtain⟨l,rfl,aC⟩:=ZfL (f:=HOp.cells) (Q:=HOp.ok) fun row hr=>Zwa (hrow row hr).2
  rw[F6]at hlen;subst hlen;rw[ZwH]at hz;unfold reachBytes at hz;exact⟨some a,cap,l,rfl,gK,hl,by unfold Zp;omega,aC⟩
theorem Zt7{v:Gz}(h:Rdz enc Tryz.prog w base spare held 57 [v]):∃(A:OA) (c:Nat) (l:Gv),v= .slice A l.length c∧Ints (fun _=>True) w A l∧l.length<=c∧l.length<=17592186044415∧∀n∈l,i64 n:=by
 rcases h.slice_ Tryz.underlying57 Zjx (by omega)with h|⟨a,len,cap,rows,hv,hl,hm,hlen,hz,gK,hrow⟩
 ·cases h
  exact⟨none,0,[],rfl,fun h=>absurd rfl h,by simp,by simp,fun e he=>by simp at he⟩
 ·cases hv
  obtain⟨l,rfl,aC⟩:=ZfL (f:=fun n:Int=>[Value.int .i64 n]) (Q:=i64) fun row hr=>by
   obtain⟨h1,h2⟩:=hrow row hr;obtain⟨a,rfl⟩:=cs1 h1;obtain⟨n,rfl,hn⟩:=rhi h2;exact⟨n,rfl,hn⟩
  rw[F6]at hlen;subst hlen;rw[Zv1]at hz;unfold reachBytes at hz;refine⟨some a,cap,l,rfl,fun hne=>?_,hl,by omega,aC⟩;obtain⟨ad,e,hf,hb,hc⟩:=gK (by simpa using hne);refine⟨ad,e,hf,hb,fun j v hj=>?_⟩;have:=hc j [Qi v] (by rw[List.getElem?_map,hj];rfl) 0 (Qi v) rfl
  simpa using this
theorem Zv9(h:Rdz enc Tryz.prog w base spare held 53 row):∃t:HTx,row=t.cells∧t.lies (fun _=>True) w:=by
 obtain⟨hl,hf⟩:=h.struct_ Tryz.underlying53;rw[ZuS]at hl;obtain⟨c0,c1,c2,rfl⟩:=cs3 hl;have h0:Rdz enc Tryz.prog w base spare held 3 (([c0,c1,c2].drop 0).take (Tryz.prog.cellsOf 3)):=hf 0 _ rfl;have h1:Rdz enc Tryz.prog w base spare held 4 (([c0,c1,c2].drop 1).take (Tryz.prog.cellsOf 4)):=hf 1 _ rfl;have h2:Rdz enc Tryz.prog w base spare held 51 (([c0,c1,c2].drop 2).take (Tryz.prog.cellsOf 51)):=hf 2 _ rfl;rw[Zjx]at h0;rw[ZqC]at h1;rw[ZvZ]at h2;obtain⟨n0,rfl,b0⟩:=rhi h0;obtain⟨n1,rfl⟩:=rhb h1;obtain⟨A,c,l,rfl,hh,hc,hs,aC⟩:=Zvc h2;exact⟨⟨n0,n1,l,A,c⟩,rfl,hh,hc,hs,b0,aC⟩
theorem Zvb(h:Rdz enc Tryz.prog w base spare held 59 row):∃o:HOrd,row=o.cells∧o.lies (fun _=>True) w:=by
 obtain⟨hl,hf⟩:=h.struct_ Tryz.underlying59;rw[ZsF]at hl;obtain⟨c0,c1,rfl⟩:=cs2 hl;have h0:Rdz enc Tryz.prog w base spare held 3 (([c0,c1].drop 0).take (Tryz.prog.cellsOf 3)):=hf 0 _ rfl;have h1:Rdz enc Tryz.prog w base spare held 57 (([c0,c1].drop 1).take (Tryz.prog.cellsOf 57)):=hf 1 _ rfl;rw[Zjx]at h0;rw[ZuV]at h1;obtain⟨n0,rfl,b0⟩:=rhi h0;obtain⟨A,c,l,rfl,hh,hc,hs,aC⟩:=Zt7 h1;exact⟨⟨n0,l,A,c⟩,rfl,hh,hc,hs,b0,aC⟩
theorem Zsl(h:Rdz enc Tryz.prog w base spare held 29 row):∃x:Hist,row=x.cells∧x.lies (fun _=>True) w:=by
 obtain⟨hl,hf⟩:=h.struct_ Tryz.underlying29;rw[ZuW]at hl;obtain⟨c0,c1,rfl⟩:=cs2 hl;have h0:Rdz enc Tryz.prog w base spare held 26 (([c0,c1].drop 0).take (Tryz.prog.cellsOf 26)):=hf 0 _ rfl;have h1:Rdz enc Tryz.prog w base spare held 27 (([c0,c1].drop 1).take (Tryz.prog.cellsOf 27)):=hf 1 _ rfl;rw[ZvY]at h0;rw[ZuT]at h1;clear hl
 have q0:∃(A:OA) (c:Nat) (l:List HTx),c0= .slice A l.length c∧Recs (fun _=>True) w A 3 (l.map HTx.cells)∧l.length<=c∧l.length<=4398046511103∧∀t∈l,t.lies (fun _=>True) w:=by
  have Bu:Rdz enc Tryz.prog w base spare held 26 [c0]:=h0;rcases Bu.slice_ Tryz.underlying26 ZuS (by omega)with h|⟨a,len,cap,rows,hv,hl,hm,hlen,hz,gK,hrow⟩
  ·cases h
   exact⟨none,0,[],rfl,fun h=>absurd rfl h,by simp,by simp,fun e he=>by simp at he⟩
  ·cases hv
   obtain⟨l,rfl,aC⟩:=ZfL (f:=HTx.cells) (Q:=fun t=>t.lies (fun _=>True) w) fun row hr=>Zv9 (hrow row hr).2
   rw[F6]at hlen;subst hlen;rw[ZwG]at hz;unfold reachBytes at hz;exact⟨some a,cap,l,rfl,gK,hl,by omega,aC⟩
 have q1:∃(A:OA) (c:Nat) (l:Gq),c1= .slice A l.length c∧Recs (fun _=>True) w A 2 (l.map HOrd.cells)∧l.length<=c∧l.length<=4398046511103∧∀t∈l,t.lies (fun _=>True) w:=by
  have Cb:Rdz enc Tryz.prog w base spare held 27 [c1]:=h1;rcases Cb.slice_ Tryz.underlying27 ZsF (by omega)with h|⟨a,len,cap,rows,hv,hl,hm,hlen,hz,gK,hrow⟩
  ·cases h
   exact⟨none,0,[],rfl,fun h=>absurd rfl h,by simp,by simp,fun e he=>by simp at he⟩
  ·cases hv
   obtain⟨l,rfl,aC⟩:=ZfL (f:=HOrd.cells) (Q:=fun t=>t.lies (fun _=>True) w) fun row hr=>Zvb (hrow row hr).2
   rw[F6]at hlen;subst hlen;rw[Zv0]at hz;unfold reachBytes at hz;exact⟨some a,cap,l,rfl,gK,hl,by omega,aC⟩
 obtain⟨A,c,l,rfl,r1,r2,r3,r4⟩:=q0;obtain⟨B,d,m,rfl,s1,s2,s3,s4⟩:=q1;exact⟨⟨l,m,A,c,B,d⟩,rfl,r1,s1,r4,s4,r2,s2,r3,s3⟩
end
/- How witnesses that come in read. -/
theorem cs7{l:Gl}(h:l.length=7):∃a b c d e f g,l=[a,b,c,d,e,f,g]:=
 match l,h with
 |[a,b,c,d,e,f,g],_=>⟨a,b,c,d,e,f,g,rfl⟩
section
variable {H:Type} {enc:Gx×Gz->H} {w:Gy} {base:Nat} {spare:Nat->Bool} {held:Bool} {row:Gl}
end
/- How arrays of six Booleans that come in read. -/
theorem Rdz.array_{H:Type}{enc:Gx×Gz->H}{P:Gw}{w:Gy}{base:Nat}{spare:Nat->Bool}{held:Bool}{t e:Gx}{cs:Gl}{n:Nat}(ht:P.underlying t=some (.array n e))(h:Rdz enc P w base spare held t cs):
  cs.length=P.cellsOf t∧∀i:Nat,i<n->∃m y,DataW.trod enc P w base spare held m e ((cs.drop (i*P.cellsOf e)).take (P.cellsOf e))=some y:=by
 obtain⟨k,y,h,_⟩:=h;obtain⟨xs,m,_,rfl,hl,hxl,hf⟩:=DataW.trod_array ht h;refine⟨hl,fun i hi=>?_⟩;have dp:i<xs.length:=by omega
 exact⟨m,xs[i],(hf i hi).trans (Qg dp)⟩
theorem cs6{l:Gl}(h:l.length=6):∃a b c d e f,l=[a,b,c,d,e,f]:=
 match l,h with
 |[a,b,c,d,e,f],_=>⟨a,b,c,d,e,f,rfl⟩
theorem ZqD:Tryz.prog.cellsOf 22=6:=by kernel_rfl
theorem ZtI:Tryz.prog.cellsOf 4=1:=by kernel_rfl
theorem Zt8{H:Type}{enc:Gx×Gz->H}{w:Gy}{base:Nat}{spare:Nat->Bool}{held:Bool}{row:Gl}(h:Rdz enc Tryz.prog w base spare held 22 row):
  ∃b0 b1 b2 b3 b4 b5:Bool,row=[.bool b0,.bool b1,.bool b2,.bool b3,.bool b4,.bool b5]:=by
 obtain⟨hl,hf⟩:=h.array_ Tryz.underlying22;rw[ZqD]at hl;obtain⟨c0,c1,c2,c3,c4,c5,rfl⟩:=cs6 hl;rw[ZtI]at hf
 have key:∀(i:Nat) (c:Gz),i<6->(([c0,c1,c2,c3,c4,c5].drop (i*1)).take 1)=[c]->∃b,c= .bool b:=fun i c hi e=>by
  obtain⟨m,y,hy⟩:=hf i hi;rw[e]at hy;obtain⟨a,ha,_⟩:=DataW.trod_bool Tryz.underlying4 hy;simp only[List.cons.injEq,and_true]at ha;exact⟨a,ha⟩
 obtain⟨b0,rfl⟩:=key 0 c0 (by omega) rfl;obtain⟨b1,rfl⟩:=key 1 c1 (by omega) rfl;obtain⟨b2,rfl⟩:=key 2 c2 (by omega) rfl;obtain⟨b3,rfl⟩:=key 3 c3 (by omega) rfl;obtain⟨b4,rfl⟩:=key 4 c4 (by omega) rfl;obtain⟨b5,rfl⟩:=key 5 c5 (by omega) rfl;exact⟨b0,b1,b2,b3,b4,b5,rfl⟩
