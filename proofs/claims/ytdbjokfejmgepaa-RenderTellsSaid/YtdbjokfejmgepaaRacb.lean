/- What is said: the answers that the document gives. -/
import Derived.Test.YtdbjokfejmgepaaRaaz
import Derived.Test.YtdbjokfejmgepaaRabf
import Derived.Test.YtdbjokfejmgepaaRabz
import Derived.Test.YtdbjokfejmgepaaRaca
namespace Go.Proofs.Ytdbjokfejmgepaa
set_option linter.unusedVariables false
set_option linter.unusedSimpArgs false
section
open Go.RowKit
theorem ZmX (n:Nat):ZgQ (Zcs (Zo n))= .agg #[.bool false,.bool false,.bool false,.bool false,.bool false,.bool true,.int .i64 2]:=by kernel_rfl
theorem Zn5 (n:Nat):Zcs (Zo n) 0=false:=by kernel_rfl
theorem Zep (n:Nat):ZF (Zo n)=true:=by kernel_rfl
section
variable {F:Nat→Prop} {w:World}
theorem Zm1 {N:Nat} (H:(Zo N).lies F w):Calls Try.prog 22 #[.agg #[.slice (some ⟨N+1+1+1,0,none⟩) 2 2,.slice (some ⟨N+1+1+1+1+1+1,0,none⟩) 2 2]] w fun e w'=>e= .returned (.agg #[.bool false,.bool false,.bool false,.bool false,.bool false,.bool true,.int .i64 2])∧Upd No w w':=by
 rw[←ZmX N];exact Zkh F w (Zo N).txs (Zo N).ords _ 2 _ 2 H (Zep N) (Zn5 N)
theorem ZnJ {N:Nat} (H:(Zo N).lies F w):Calls Try.prog 21 #[.agg #[.slice (some ⟨N+1+1+1,0,none⟩) 2 2,.slice (some ⟨N+1+1+1+1+1+1,0,none⟩) 2 2],.int .i64 5] w (ToldW w (⟨5,[e1,e2],⟨0,0,⟨0,0,0⟩⟩⟩,true)):=by
 rw[←o1 N];exact Znl F w (Zo N).txs (Zo N).ords _ 2 _ 2 5 H (Zep N)
theorem Zl3 {N:Nat} (H:(Zo N).lies F w):Calls Try.prog 16 #[.agg #[.slice (some ⟨N+1+1+1,0,none⟩) 2 2,.slice (some ⟨N+1+1+1+1+1+1,0,none⟩) 2 2],.int .i64 2,.int .i64 1] w fun e w'=>e= .returned (.string (⟨#[116,120,115,32,50,32,111,114,100,101,114,115,32,50,32,119,101,105,103,104,116,32,54,32,117,110,100,111,32,50,32,114,101,100,111,32,49,10]⟩:ByteArray))∧Upd No w w':=by
 have h:=Zk4 w (Zo N).txs (some ⟨N+1+1+1,0,none⟩) 2 (some ⟨N+1+1+1+1+1+1,0,none⟩) 2 2 2 1 H.txs (by have:=(ZbD (Zep N)).1;omega) (by decide) (fun t ht=>by have:=(ZbD (Zep N)).2 t ht;omega) ⟨by decide,by decide⟩ ⟨by decide,by decide⟩;rw[show ZcS ((Zo N).txs.length:Int) (2:Nat) (ZaO (Zo N).txs) 2 1=(⟨#[116,120,115,32,50,32,111,114,100,101,114,115,32,50,32,119,101,105,103,104,116,32,54,32,117,110,100,111,32,50,32,114,101,100,111,32,49,10]⟩:ByteArray) by kernel_rfl]at h;exact h
theorem Zl2:Calls Try.prog 10 #[.agg #[.bool false,.bool false,.bool false,.bool false,.bool false,.bool true,.int .i64 2]] w fun e w'=>e= .returned (.string (⟨#[80,76,45,50,32,71,48,45,32,71,49,97,45,32,71,49,98,45,32,71,49,99,45,32,71,50,45,105,116,101,109,43,10]⟩:ByteArray))∧Upd No w w':=by
 have h:=Zmw w (fun i=>i==5) 2;rw[show ZfV 2 (fun i=>i==5)=(⟨#[80,76,45,50,32,71,48,45,32,71,49,97,45,32,71,49,98,45,32,71,49,99,45,32,71,50,45,105,116,101,109,43,10]⟩:ByteArray) by kernel_rfl]at h;exact h
theorem i0_:i64 0:=⟨by decide,by decide⟩
theorem Zm0 {A:Option Addr} {c:Nat} (H:EdX w A [e1,e2]):Calls Try.prog 12 #[.int .i64 5,.agg #[.int .i64 5,.slice A 2 c,.int .i64 0,.int .i64 0,.int .i64 0,.int .i64 0,.int .i64 0],.bool true] w fun e w'=>e= .returned (.string (⟨#[71,50,45,105,116,101,109,32,49,32,114,119,49,32,50,32,114,119,50,32,49,10]⟩:ByteArray))∧Upd No w w':=by
 obtain⟨G,H⟩:=H;have h:=ZiE w 5 true 5 A c [e1,e2] 0 0 0 0 0 H (by decide) okE i0_ i0_ ⟨i0_,i0_,i0_⟩;rw[show ZaN 5 true [e1,e2] 0 0 0 0 0=(⟨#[71,50,45,105,116,101,109,32,49,32,114,119,49,32,50,32,114,119,50,32,49,10]⟩:ByteArray) by kernel_rfl]at h;exact h
theorem Zl0 {A:Option Addr} {c:Nat} (H:EdX w A [e1,e2]):Calls Try.prog 12 #[.int .i64 1,.agg #[.int .i64 5,.slice A 2 c,.int .i64 0,.int .i64 0,.int .i64 0,.int .i64 0,.int .i64 0],.bool false] w fun e w'=>e= .returned (.string (⟨#[71,48,32,110,111,10]⟩:ByteArray))∧Upd No w w':=by
 obtain⟨G,H⟩:=H;have h:=ZiE w 1 false 5 A c [e1,e2] 0 0 0 0 0 H (by decide) okE i0_ i0_ ⟨i0_,i0_,i0_⟩;rw[show ZaN 1 false [e1,e2] 0 0 0 0 0=(⟨#[71,48,32,110,111,10]⟩:ByteArray) by kernel_rfl]at h;exact h
theorem Zl1:Calls Try.prog 12 #[.int .i64 2,.agg #[.int .i64 2,.slice none 0 0,.int .i64 2,.int .i64 0,.int .i64 1,.int .i64 5,.int .i64 1],.bool true] w fun e w'=>e= .returned (.string (⟨#[71,49,97,32,50,32,48,32,114,53,64,49,46,49,10]⟩:ByteArray))∧Upd No w w':=by
 have h:=ZiE (F:=fun _=>True) w 2 true 2 none 0 [] 2 0 1 5 1 ZbX (by decide) (fun e he=>by cases he) ⟨by decide,by decide⟩ i0_ ⟨⟨by decide,by decide⟩,⟨by decide,by decide⟩,by decide,by decide⟩;rw[show ZaN 2 true [] 2 0 1 5 1=(⟨#[71,49,97,32,50,32,48,32,114,53,64,49,46,49,10]⟩:ByteArray) by kernel_rfl]at h;exact h
theorem Zjw {e:Int} {v:ByteArray} (hv:Zbe e=v):Calls Try.prog 8 #[.int .i64 e] w fun x w'=>x= .returned (.string v)∧Upd No w w':=by subst hv;exact ZiF w e
theorem Zhg {e:Int} {v:ByteArray} (hv:ZA e=v):Calls Try.prog 6 #[.int .i64 e] w fun x w'=>x= .returned (.string v)∧Upd No w w':=by subst hv;exact Zfn w e
theorem ZnI {b:Nat} (h:Blk w b 58 [.bool false,.int .i64 5,.int .i64 0,.int .i64 0]):Calls Try.prog 14 #[.agg #[.int .i64 7,.bool false,.slice (some ⟨b,0,none⟩) 1 1]] w fun e w'=>e= .returned (.string (⟨#[55,32,97,32,119,53,10]⟩:ByteArray))∧Upd No w w':=by
 have hh:HOps (fun _=>True) w (some ⟨b,0,none⟩) [⟨false,5,0,0⟩]:=by
  refine fun _=>⟨_,rfl,trivial,h.lt,fun k row hk j v hj=> ?_⟩
  cases k with
  |zero=>
   simp only[List.map_cons,List.map_nil,Qz,Option.some.injEq]at hk;subst hk;have e1:(⟨b,0,none⟩:Addr).add (0*4+j)=⟨b,j,none⟩:=by unfold Addr.add;split<;>simp_all
   rw[e1,h.cell];exact hj
  |succ k=>simp at hk
 have h:=pTx _ w 7 false (some ⟨b,0,none⟩) 1 [⟨false,5,0,0⟩] ⟨by decide,by decide⟩ hh (by decide) (fun o ho=>by simp only[List.mem_singleton]at ho;subst ho;exact⟨⟨by decide,by decide⟩,⟨by decide,by decide⟩,by decide,by decide⟩);rw[show txS 7 false [⟨false,5,0,0⟩]=(⟨#[55,32,97,32,119,53,10]⟩:ByteArray) by kernel_rfl]at h;exact h
theorem Zll {b:Nat} (h:Blk w b 9 [.string ⟨#[97]⟩,.string ⟨#[]⟩]):Calls Try.prog 18 #[.slice (some ⟨b,0,none⟩) 2 2] w fun e w'=>e= .returned (.string (⟨#[97,10,10,111,107,10]⟩:ByteArray))∧Upd No w w':=by
 have hh:Zdb (fun _=>True) w (some ⟨b,0,none⟩) [⟨#[97]⟩,⟨#[]⟩]:=by
  refine fun _=>⟨_,rfl,trivial,h.lt,fun j v hj=> ?_⟩
  have e1:(⟨b,0,none⟩:Addr).add j=⟨b,j,none⟩:=by unfold Addr.add;split<;>simp_all
  rw[e1,h.cell]
  match j,hj with
  |0,hj=>cases hj;rfl
  |1,hj=>cases hj;rfl
  |n+2,hj=>simp at hj
 have h:=Zhh _ w (some ⟨b,0,none⟩) 2 [⟨#[97]⟩,⟨#[]⟩] hh (by decide) (fun s hs=>by simp only[List.mem_cons,List.not_mem_nil,or_false]at hs;rcases hs with rfl|rfl<;>decide);rw[show Zd6 [⟨#[97]⟩,⟨#[]⟩]=(⟨#[97,10,10,111,107,10]⟩:ByteArray) by kernel_rfl]at h;exact h
theorem Zj6:Calls Try.prog 18 #[.slice none 0 0] w fun e w'=>e= .returned (.string (⟨#[111,107,10]⟩:ByteArray))∧Upd No w w':=by
 have h:=Zhh (fun _=>True) w none 0 [] (fun h=>absurd rfl h) (by decide) (fun s hs=>by cases hs);rw[show Zd6 []=(⟨#[111,107,10]⟩:ByteArray) by kernel_rfl]at h;exact h
end
set_option maxRecDepth 100000 in
set_option maxHeartbeats 8000000 in
theorem ZlA (w:World):Calls Try.prog 5 #[] w fun e w'=>e= .returned (.bool true)∧Upd No w w':=by
 go_enter Try.func5,Try.ntmps5
 go_wp2_with fail
 refine(ZmZ _).mono ?_;rintro e w1 ⟨N,rfl,hs1,hu1⟩;obtain⟨y1,hy1⟩:∃y,w1.heap.size=y:=⟨_,rfl⟩;obtain⟨wh,hwh⟩:∃wh,w1.alloc (.cells #[.slice (some ⟨N+1+1+1,0,none⟩) 2 2,.slice (some ⟨N+1+1+1+1+1+1,0,none⟩) 2 2] 39)=wh:=⟨_,rfl⟩;have uh:Upd No w1 wh:=by rw[←hwh];exact(Upd.refl No w1).alloc _
 have bH:Blk wh y1 39 [.slice (some ⟨N+1+1+1,0,none⟩) 2 2,.slice (some ⟨N+1+1+1+1+1+1,0,none⟩) 2 2]:=by rw[←hwh,←hy1];exact Blk.new w1 _ _
 have hhz:Upd No wh wh:=Upd.refl _ _;have h0:∀W,Upd No wh W→W.cell? ⟨y1,0,none⟩=some (.slice (some ⟨N+1+1+1,0,none⟩) 2 2):=fun W u=>(bH.upd u id).cell 0
 have h1:∀W,Upd No wh W→W.cell? ⟨y1,1,none⟩=some (.slice (some ⟨N+1+1+1+1+1+1,0,none⟩) 2 2):=fun W u=>(bH.upd u id).cell 1
 have HS:=Qh (hs1.upd uh (fun _ _=>id));have K0:=Qh h0;have K1:=Qh h1;have UH:=Qh (hu1.trans uh);clear hs1 hu1 uh bH
 go_wp2_with fail
 refine(ZnJ HS.out).mono ?_;rintro e w2 hh;obtain⟨A2,c2,rfl,hx2,hu2⟩:=hh.part (n:=2) rfl rfl;have ua:Upd No wh ((w2.alloc (.cells #[.int .i64 5,.slice A2 2 c2,.int .i64 0,.int .i64 0,.int .i64 0,.int .i64 0,.int .i64 0] 32)).alloc (.cells #[.int .i64 2,.slice none 0 0,.int .i64 2,.int .i64 0,.int .i64 1,.int .i64 5,.int .i64 1] 32)):=(hu2.alloc _).alloc _;clear hh hhz
 go_wp2_with fail
 clear ua h0 h1;obtain⟨y2,hy2⟩:∃y,w2.heap.size=y:=⟨_,rfl⟩;obtain⟨wv,hwv⟩:∃wv,w2.alloc (.cells #[.int .i64 5,.slice A2 2 c2,.int .i64 0,.int .i64 0,.int .i64 0,.int .i64 0,.int .i64 0] 32)=wv:=⟨_,rfl⟩;have sv:wv.heap.size=y2+1:=by rw[←hwv,←hy2];simp
 have uv:Upd No w2 wv:=by rw[←hwv];exact(Upd.refl No w2).alloc _
 have bV:Blk wv y2 32 [.int .i64 5,.slice A2 2 c2,.int .i64 0,.int .i64 0,.int .i64 0,.int .i64 0,.int .i64 0]:=by rw[←hwv,←hy2];exact Blk.new w2 _ _
 obtain⟨wb,hwb⟩:∃wb,wv.alloc (.cells #[.int .i64 2,.slice none 0 0,.int .i64 2,.int .i64 0,.int .i64 1,.int .i64 5,.int .i64 1] 32)=wb:=⟨_,rfl⟩;have ub:Upd No wv wb:=by rw[←hwb];exact(Upd.refl No wv).alloc _
 have bB:Blk wb (y2+1) 32 [.int .i64 2,.slice none 0 0,.int .i64 2,.int .i64 0,.int .i64 1,.int .i64 5,.int .i64 1]:=by rw[←hwb,←sv];exact Blk.new wv _ _
 have UHB:=Qh ((hu2.trans uv).trans ub);have g0:∀W,Upd No wb W→W.cell? ⟨y1,0,none⟩=some (.slice (some ⟨N+1+1+1,0,none⟩) 2 2):=fun W u=>K0.out W (UHB.out.trans u)
 have g1:∀W,Upd No wb W→W.cell? ⟨y1,1,none⟩=some (.slice (some ⟨N+1+1+1+1+1+1,0,none⟩) 2 2):=fun W u=>K1.out W (UHB.out.trans u)
 have v0:∀W,Upd No wb W→W.cell? ⟨y2,0,none⟩=some (.int .i64 5):=fun W u=>((bV.upd ub id).upd u id).cell 0
 have v1:∀W,Upd No wb W→W.cell? ⟨y2,1,none⟩=some (.slice A2 2 c2):=fun W u=>((bV.upd ub id).upd u id).cell 1
 have v2:∀W,Upd No wb W→W.cell? ⟨y2,2,none⟩=some (.int .i64 0):=fun W u=>((bV.upd ub id).upd u id).cell 2
 have v3:∀W,Upd No wb W→W.cell? ⟨y2,3,none⟩=some (.int .i64 0):=fun W u=>((bV.upd ub id).upd u id).cell 3
 have v4:∀W,Upd No wb W→W.cell? ⟨y2,4,none⟩=some (.int .i64 0):=fun W u=>((bV.upd ub id).upd u id).cell 4
 have v5:∀W,Upd No wb W→W.cell? ⟨y2,5,none⟩=some (.int .i64 0):=fun W u=>((bV.upd ub id).upd u id).cell 5
 have v6:∀W,Upd No wb W→W.cell? ⟨y2,6,none⟩=some (.int .i64 0):=fun W u=>((bV.upd ub id).upd u id).cell 6
 have b0:∀W,Upd No wb W→W.cell? ⟨y2+1,0,none⟩=some (.int .i64 2):=fun W u=>(bB.upd u id).cell 0
 have b1:∀W,Upd No wb W→W.cell? ⟨y2+1,1,none⟩=some (.slice none 0 0):=fun W u=>(bB.upd u id).cell 1
 have b2:∀W,Upd No wb W→W.cell? ⟨y2+1,2,none⟩=some (.int .i64 2):=fun W u=>(bB.upd u id).cell 2
 have b3:∀W,Upd No wb W→W.cell? ⟨y2+1,3,none⟩=some (.int .i64 0):=fun W u=>(bB.upd u id).cell 3
 have b4:∀W,Upd No wb W→W.cell? ⟨y2+1,4,none⟩=some (.int .i64 1):=fun W u=>(bB.upd u id).cell 4
 have b5:∀W,Upd No wb W→W.cell? ⟨y2+1,5,none⟩=some (.int .i64 5):=fun W u=>(bB.upd u id).cell 5
 have b6:∀W,Upd No wb W→W.cell? ⟨y2+1,6,none⟩=some (.int .i64 1):=fun W u=>(bB.upd u id).cell 6
 have HX:=Qh (fun W (u:Upd No wb W)=>(hx2.upd (uv.trans ub)).upd u);have HH:=Qh (fun W (u:Upd No wb W)=>HS.out.upd (UHB.out.trans u) (fun _ _=>id));have HU:=Qh (UH.out.trans UHB.out);have hx:Upd No wb wb:=Upd.refl _ _;rw[hwv,hwb];simp only[hy2];clear hx2 hu2 uv ub bV bB UH UHB HS K0 K1 hwv hwb hy2 sv;refine(Zm1 (HH.out _ hx)).mono ?_;rintro e q1 ⟨rfl,hv1⟩;have uu1:=hx.trans hv1;clear hv1
 go_wp2_with fail
 refine(Zl2).mono ?_;rintro e q2 ⟨rfl,hv2⟩;have uu2:=uu1.trans hv2;clear hv2
 go_wp2_with fail
 refine(Zm0 (HX.out _ uu2)).mono ?_;rintro e q3 ⟨rfl,hv3⟩;have uu3:=uu2.trans hv3;clear hv3
 go_wp2_with fail
 refine(Zl1).mono ?_;rintro e q4 ⟨rfl,hv4⟩;have uu4:=uu3.trans hv4;clear hv4
 go_wp2_with fail
 refine(Zl0 (HX.out _ uu4)).mono ?_;rintro e q5 ⟨rfl,hv5⟩;have uu5:=uu4.trans hv5;clear hv5
 go_wp2_with fail
 refine(Zjw (show Zbe 0=(⟨#[111,107,10]⟩:ByteArray) from rfl)).mono ?_;rintro e q6 ⟨rfl,hv6⟩;have uu6:=uu5.trans hv6;clear hv6
 go_wp2_with fail
 refine(Zjw (show Zbe 6=(⟨#[110,111,32,114,101,97,100,10]⟩:ByteArray) by kernel_rfl)).mono ?_;rintro e q7 ⟨rfl,hv7⟩;have uu7:=uu6.trans hv7;clear hv7
 go_wp2_with fail
 refine(Zhg (show ZA 17=(⟨#[115,116,97,116,101]⟩:ByteArray) from rfl)).mono ?_;rintro e q8 ⟨rfl,hv8⟩;have uu8:=uu7.trans hv8;clear hv8
 go_wp2_with fail
 refine(Zhg (show ZA 18=(⟨#[120]⟩:ByteArray) from rfl)).mono ?_;rintro e q9 ⟨rfl,hv9⟩;have uu9:=uu8.trans hv9;clear hv9
 go_wp2_with fail
 refine(Zhg (show ZA (-1)=(⟨#[120]⟩:ByteArray) from rfl)).mono ?_;rintro e q10 ⟨rfl,hv10⟩;have uu10:=uu9.trans hv10;clear hv10
 go_wp2_with fail
 have bT:=Blk.new q10 58 [.bool false,.int .i64 5,.int .i64 0,.int .i64 0];refine(ZnI bT).mono ?_;rintro e q11 ⟨rfl,hv11⟩;have uu11:=(uu10.alloc (.cells #[.bool false,.int .i64 5,.int .i64 0,.int .i64 0] 58)).trans hv11;clear bT hv11
 go_wp2_with fail
 refine(Zl3 (HH.out _ uu11)).mono ?_;rintro e q12 ⟨rfl,hv12⟩;have uu12:=uu11.trans hv12;clear hv12
 go_wp2_with fail
 have bL:=Blk.new q12 9 [.string ⟨#[97]⟩,.string ⟨#[]⟩];refine(Zll bL).mono ?_;rintro e q13 ⟨rfl,hv13⟩;have uu13:=(uu12.alloc (.cells #[.string ⟨#[97]⟩,.string ⟨#[]⟩] 9)).trans hv13;clear bL hv13
 go_wp2_with fail
 refine(Zj6).mono ?_;rintro e q14 ⟨rfl,hv14⟩;have uu14:=uu13.trans hv14;clear hv14;go_wp2
 go_ret
 exact⟨rfl,HU.out.trans uu14⟩
end
/- What is said:the law on it:the walk. -/
section
open Go.RowKit
def ZmN:Prop:=∀w:World,Calls Try.prog 5 #[] w fun e w'=>e= .returned (.bool true)∧Upd No w w'
def f6 (b0 b1 b2 b3 b4 b5:Bool):Int→Bool:=fun i=>if i=0 then b0 else if i=1 then b1 else if i=2 then b2 else if i=3 then b3 else if i=4 then b4 else b5
theorem Zbq (a:ByteArray):(a.toList==a.toList)=true:=by simp
set_option maxRecDepth 100000 in
set_option maxHeartbeats 8000000 in
theorem Zlh {F:Nat→Prop} (w:World) (e:Int) (b0 b1 b2 b3 b4 b5:Bool) (lv p q:Int) (X:Option Addr) (xc:Nat) (wl:List Edge) (tx pl vt vk vn:Int) (is:Bool) (t0:Int) (td:Bool) (TA:Option Addr) (tc:Nat) (ops:List HOp)
  (txs:List HTx) (ords:List HOrd) (A:Option Addr) (c:Nat) (B:Option Addr) (d:Nat) (un:Int) (S:Option Addr) (sc:Nat) (l:List ByteArray)
  (HW:Walk F w X wl) (hwok:∀e∈wl,e.ok) (i1:i64 tx) (i2:i64 pl) (i3:i64 vk∧i64 vt∧i64 vn) (it:i64 t0) (HO:HOps F w TA ops) (hook:∀o∈ops,o.ok) (ip:i64 p) (iu:i64 un)
  (H:Hist.lies F w ⟨txs,ords,A,c,B,d⟩) (HS:Zdb F w S l) (fw:wl.length≤4398046511103) (fo:Zy ops.length) (fl:l.length≤8796093022207) (L:Hid ZmN):
  Calls Try.prog 3 #[.int .i64 e,.agg #[.bool b0,.bool b1,.bool b2,.bool b3,.bool b4,.bool b5,.int .i64 lv],.int .i64 p,.agg #[.int .i64 q,.slice X wl.length xc,.int .i64 tx,.int .i64 pl,.int .i64 vt,.int .i64 vk,.int .i64 vn],.bool is,.agg #[.int .i64 t0,.bool td,.slice TA ops.length tc],.agg #[.slice A txs.length c,.slice B ords.length d],.int .i64 un,.slice S l.length sc] w fun e w'=>e= .returned (.bool true)∧Upd No w w':=by
 obtain⟨z,hz⟩:∃z,w.heap.size=z:=⟨_,rfl⟩;obtain⟨wx0,hwx0⟩:∃x,w.alloc (.cells #[.bool b0,.bool b1,.bool b2,.bool b3,.bool b4,.bool b5,.int .i64 lv] 25)=x:=⟨_,rfl⟩;have swx0:wx0.heap.size=z+1:=by rw[←hwx0];simp[hz]
 have uwx0:Upd No w wx0:=by rw[←hwx0];exact(Upd.refl No w).alloc _
 have Bwx0:Blk wx0 (z) 25 [.bool b0,.bool b1,.bool b2,.bool b3,.bool b4,.bool b5,.int .i64 lv]:=by rw[←hwx0,←hz];exact Blk.new w _ _
 obtain⟨wx1,hwx1⟩:∃x,wx0.alloc (.cells #[.int .i64 q,.slice X wl.length xc,.int .i64 tx,.int .i64 pl,.int .i64 vt,.int .i64 vk,.int .i64 vn] 32)=x:=⟨_,rfl⟩;have swx1:wx1.heap.size=z+2:=by rw[←hwx1];simp[swx0]
 have uwx1:Upd No wx0 wx1:=by rw[←hwx1];exact(Upd.refl No wx0).alloc _
 have Bwx1:Blk wx1 (z+1) 32 [.int .i64 q,.slice X wl.length xc,.int .i64 tx,.int .i64 pl,.int .i64 vt,.int .i64 vk,.int .i64 vn]:=by rw[←hwx1,←swx0];exact Blk.new wx0 _ _
 obtain⟨wx2,hwx2⟩:∃x,wx1.alloc (.cells #[.int .i64 t0,.bool td,.slice TA ops.length tc] 35)=x:=⟨_,rfl⟩;have swx2:wx2.heap.size=z+3:=by rw[←hwx2];simp[swx1]
 have uwx2:Upd No wx1 wx2:=by rw[←hwx2];exact(Upd.refl No wx1).alloc _
 have Bwx2:Blk wx2 (z+2) 35 [.int .i64 t0,.bool td,.slice TA ops.length tc]:=by rw[←hwx2,←swx1];exact Blk.new wx1 _ _
 obtain⟨wb,hwb⟩:∃x,wx2.alloc (.cells #[.slice A txs.length c,.slice B ords.length d] 39)=x:=⟨_,rfl⟩;have swb:wb.heap.size=z+4:=by rw[←hwb];simp[swx2]
 have uwb:Upd No wx2 wb:=by rw[←hwb];exact(Upd.refl No wx2).alloc _
 have Bwb:Blk wb (z+3) 39 [.slice A txs.length c,.slice B ords.length d]:=by rw[←hwb,←swx2];exact Blk.new wx2 _ _
 have v_0:∀W,Upd No wb W→W.cell? ⟨z,0,none⟩=some (.bool b0):=fun W u=>(Bwx0.upd ((uwx1.trans (uwx2.trans uwb)).trans u) id).cell 0
 have v_1:∀W,Upd No wb W→W.cell? ⟨z,1,none⟩=some (.bool b1):=fun W u=>(Bwx0.upd ((uwx1.trans (uwx2.trans uwb)).trans u) id).cell 1
 have v_2:∀W,Upd No wb W→W.cell? ⟨z,2,none⟩=some (.bool b2):=fun W u=>(Bwx0.upd ((uwx1.trans (uwx2.trans uwb)).trans u) id).cell 2
 have v_3:∀W,Upd No wb W→W.cell? ⟨z,3,none⟩=some (.bool b3):=fun W u=>(Bwx0.upd ((uwx1.trans (uwx2.trans uwb)).trans u) id).cell 3
 have v_4:∀W,Upd No wb W→W.cell? ⟨z,4,none⟩=some (.bool b4):=fun W u=>(Bwx0.upd ((uwx1.trans (uwx2.trans uwb)).trans u) id).cell 4
 have v_5:∀W,Upd No wb W→W.cell? ⟨z,5,none⟩=some (.bool b5):=fun W u=>(Bwx0.upd ((uwx1.trans (uwx2.trans uwb)).trans u) id).cell 5
 have v_6:∀W,Upd No wb W→W.cell? ⟨z,6,none⟩=some (.int .i64 lv):=fun W u=>(Bwx0.upd ((uwx1.trans (uwx2.trans uwb)).trans u) id).cell 6
 have g_0:∀W,Upd No wb W→W.cell? ⟨z+1,0,none⟩=some (.int .i64 q):=fun W u=>(Bwx1.upd ((uwx2.trans uwb).trans u) id).cell 0
 have g_1:∀W,Upd No wb W→W.cell? ⟨z+1,1,none⟩=some (.slice X wl.length xc):=fun W u=>(Bwx1.upd ((uwx2.trans uwb).trans u) id).cell 1
 have g_2:∀W,Upd No wb W→W.cell? ⟨z+1,2,none⟩=some (.int .i64 tx):=fun W u=>(Bwx1.upd ((uwx2.trans uwb).trans u) id).cell 2
 have g_3:∀W,Upd No wb W→W.cell? ⟨z+1,3,none⟩=some (.int .i64 pl):=fun W u=>(Bwx1.upd ((uwx2.trans uwb).trans u) id).cell 3
 have g_4:∀W,Upd No wb W→W.cell? ⟨z+1,4,none⟩=some (.int .i64 vt):=fun W u=>(Bwx1.upd ((uwx2.trans uwb).trans u) id).cell 4
 have g_5:∀W,Upd No wb W→W.cell? ⟨z+1,5,none⟩=some (.int .i64 vk):=fun W u=>(Bwx1.upd ((uwx2.trans uwb).trans u) id).cell 5
 have g_6:∀W,Upd No wb W→W.cell? ⟨z+1,6,none⟩=some (.int .i64 vn):=fun W u=>(Bwx1.upd ((uwx2.trans uwb).trans u) id).cell 6
 have t_0:∀W,Upd No wb W→W.cell? ⟨z+2,0,none⟩=some (.int .i64 t0):=fun W u=>(Bwx2.upd (uwb.trans u) id).cell 0
 have t_1:∀W,Upd No wb W→W.cell? ⟨z+2,1,none⟩=some (.bool td):=fun W u=>(Bwx2.upd (uwb.trans u) id).cell 1
 have t_2:∀W,Upd No wb W→W.cell? ⟨z+2,2,none⟩=some (.slice TA ops.length tc):=fun W u=>(Bwx2.upd (uwb.trans u) id).cell 2
 have h_0:∀W,Upd No wb W→W.cell? ⟨z+3,0,none⟩=some (.slice A txs.length c):=fun W u=>(Bwb.upd ((Upd.refl No wb).trans u) id).cell 0
 have h_1:∀W,Upd No wb W→W.cell? ⟨z+3,1,none⟩=some (.slice B ords.length d):=fun W u=>(Bwb.upd ((Upd.refl No wb).trans u) id).cell 1
 have U0:=Qh (uwx0.trans (uwx1.trans (uwx2.trans uwb)));have GH:=Qh (fun W (u:Upd No wb W)=>H.upd (U0.out.trans u) (fun _ _=>id));have GW:=Qh (fun W (u:Upd No wb W)=>HW.upd (U0.out.trans u) (fun _ _=>id));have GO:=Qh (fun W (u:Upd No wb W)=>HOps.upd HO (U0.out.trans u) (fun _ _=>id));have GS:=Qh (fun W (u:Upd No wb W)=>HS.upd (U0.out.trans u) (fun _ _=>id));have CL:=Qh (fun W (u:Upd No wb W)=>Zmh F W ⟨txs,ords,A,c,B,d⟩ (GH.out W u));unfold Hist.val at CL;obtain⟨lb,hlb⟩:∃lb,ZF ⟨txs,ords,A,c,B,d⟩=lb:=⟨_,rfl⟩;rw[hlb]at CL;have hbz:Upd No wb wb:=Upd.refl _ _;have HLB:=Qh hlb;have J1:=Qh hwok;have J2:=Qh hook;have I1:=Qh i1;have I2:=Qh i2;have I3:=Qh i3;have I4:=Qh it;have I5:=Qh ip;have I6:=Qh iu;unfold Zy at fo;clear hlb H HW HO HS hwok hook i1 i2 i3 it ip iu uwx0 uwx1 uwx2 uwb Bwx0 Bwx1 Bwx2 Bwb
 go_enter Try.func3,Try.ntmps3
 cases lb
 ·go_wp2_with fail
  refine(CL.out _ hbz).mono ?_;rintro e w3 ⟨rfl,hu3⟩
  go_wp2_with fail
  refine(L.out _).mono ?_;rintro e w4 ⟨rfl,hu4⟩;go_wp2
  go_ret
  exact⟨rfl,(U0.out.trans hu3).trans hu4⟩
 by_cases c0:40<wl.length
 ·have e0:decide (40<(wl.length:Int))=true:=decide_eq_true (by omega);clear c0
  go_wp2_with fail
  refine(CL.out _ hbz).mono ?_;rintro e w3 ⟨rfl,hu3⟩
  go_wp2_with fail
  refine(L.out _).mono ?_;rintro e w4 ⟨rfl,hu4⟩;go_wp2
  go_ret
  exact⟨rfl,(U0.out.trans hu3).trans hu4⟩
 have e0:decide (40<(wl.length:Int))=false:=decide_eq_false (by omega)
 by_cases c1:60<ops.length
 ·have e1:decide (60<(ops.length:Int))=true:=decide_eq_true (by omega);clear c1
  go_wp2_with fail
  refine(CL.out _ hbz).mono ?_;rintro e w3 ⟨rfl,hu3⟩
  go_wp2_with fail
  refine(L.out _).mono ?_;rintro e w4 ⟨rfl,hu4⟩;go_wp2
  go_ret
  exact⟨rfl,(U0.out.trans hu3).trans hu4⟩
 have e1:decide (60<(ops.length:Int))=false:=decide_eq_false (by omega)
 by_cases c2:60<l.length
 ·have e2:decide (60<(l.length:Int))=true:=decide_eq_true (by omega);clear c2
  go_wp2_with fail
  refine(CL.out _ hbz).mono ?_;rintro e w3 ⟨rfl,hu3⟩
  go_wp2_with fail
  refine(L.out _).mono ?_;rintro e w4 ⟨rfl,hu4⟩;go_wp2
  go_ret
  exact⟨rfl,(U0.out.trans hu3).trans hu4⟩
 have e2:decide (60<(l.length:Int))=false:=decide_eq_false (by omega);have D0:=Qh (Nat.not_lt.1 c0);have D1:=Qh (Nat.not_lt.1 c1);have D2:=Qh (Nat.not_lt.1 c2);clear c0 c1 c2
 go_wp2_with fail
 refine(CL.out _ hbz).mono ?_;rintro e w3 ⟨rfl,hu3⟩;have U3:=Qh hu3;go_wp2;clear hu3 hwx0 hwx1 hwx2 hwb swx0 swx1 swx2 swb hz
 go_loopg [44] l.length (fun gk i wr=>∃k:Nat,k+gk=l.length∧i= .int .i64 (k:Int)∧Hid (∀s∈l.take k,s.size≤200)∧Hid (Upd No wb wr))
 case atStart=>exact⟨0,by omega,rfl,Qh (fun s hs=>by simp at hs),U3⟩
 case round=>
  obtain⟨k,hgk,rfl,hsm,hu⟩:=hrel
  by_cases hlt:k<l.length
  ·obtain⟨ad,rfl,_,_,q0⟩:=(GS.out _ hu.out).at_ hlt;obtain⟨x,hx⟩:∃x,l[k]=x:=⟨_,rfl⟩;rw[hx]at q0;have XX:=Qh hx;have n1:(0:Int)≤(k:Int):=Qn _;have n2:(k:Int)<(l.length:Int):=by omega
   clear hx
   by_cases hs:200<x.size
   ·have e9:decide (200<(x.size:Int))=true:=decide_eq_true (by omega);clear hs
    go_wp2_with fail
    refine(L.out _).mono ?_;rintro e w4 ⟨rfl,hu4⟩;go_wp2
    go_ret
    exact⟨rfl,(U0.out.trans hu.out).trans hu4⟩
   ·have e9:decide (200<(x.size:Int))=false:=decide_eq_false (by omega)
    have HSM:=Qh (show∀s∈l.take (k+1),s.size≤200 from fun s hs2=>by
     rw[List.take_succ_eq_append_getElem hlt,List.mem_append,List.mem_singleton,XX.out]at hs2;rcases hs2 with hs2|rfl
     ·exact hsm.out s hs2
     ·omega)
    clear hs;go_wp2
    go_roundg (gk-1)
    case measure=>omega
    case rel=>exact⟨k+1,by omega,by go_num,HSM,hu⟩
  ·obtain rfl:k=l.length:=by omega
   have HSM:=Qh (show∀s∈l,s.size≤200 by have:=hsm.out;rwa [List.take_length]at this);have UU:=Qh hu.out;clear hsm hu hlt;have vr0:∀W,Upd No wr W→W.cell? ⟨z,0,none⟩=some (.bool b0):=fun W u=>v_0 W (UU.out.trans u)
   have vr1:∀W,Upd No wr W→W.cell? ⟨z,1,none⟩=some (.bool b1):=fun W u=>v_1 W (UU.out.trans u)
   have vr2:∀W,Upd No wr W→W.cell? ⟨z,2,none⟩=some (.bool b2):=fun W u=>v_2 W (UU.out.trans u)
   have vr3:∀W,Upd No wr W→W.cell? ⟨z,3,none⟩=some (.bool b3):=fun W u=>v_3 W (UU.out.trans u)
   have vr4:∀W,Upd No wr W→W.cell? ⟨z,4,none⟩=some (.bool b4):=fun W u=>v_4 W (UU.out.trans u)
   have vr5:∀W,Upd No wr W→W.cell? ⟨z,5,none⟩=some (.bool b5):=fun W u=>v_5 W (UU.out.trans u)
   have vr6:∀W,Upd No wr W→W.cell? ⟨z,6,none⟩=some (.int .i64 lv):=fun W u=>v_6 W (UU.out.trans u)
   have gr0:∀W,Upd No wr W→W.cell? ⟨z+1,0,none⟩=some (.int .i64 q):=fun W u=>g_0 W (UU.out.trans u)
   have gr1:∀W,Upd No wr W→W.cell? ⟨z+1,1,none⟩=some (.slice X wl.length xc):=fun W u=>g_1 W (UU.out.trans u)
   have gr2:∀W,Upd No wr W→W.cell? ⟨z+1,2,none⟩=some (.int .i64 tx):=fun W u=>g_2 W (UU.out.trans u)
   have gr3:∀W,Upd No wr W→W.cell? ⟨z+1,3,none⟩=some (.int .i64 pl):=fun W u=>g_3 W (UU.out.trans u)
   have gr4:∀W,Upd No wr W→W.cell? ⟨z+1,4,none⟩=some (.int .i64 vt):=fun W u=>g_4 W (UU.out.trans u)
   have gr5:∀W,Upd No wr W→W.cell? ⟨z+1,5,none⟩=some (.int .i64 vk):=fun W u=>g_5 W (UU.out.trans u)
   have gr6:∀W,Upd No wr W→W.cell? ⟨z+1,6,none⟩=some (.int .i64 vn):=fun W u=>g_6 W (UU.out.trans u)
   have tr0:∀W,Upd No wr W→W.cell? ⟨z+2,0,none⟩=some (.int .i64 t0):=fun W u=>t_0 W (UU.out.trans u)
   have tr1:∀W,Upd No wr W→W.cell? ⟨z+2,1,none⟩=some (.bool td):=fun W u=>t_1 W (UU.out.trans u)
   have tr2:∀W,Upd No wr W→W.cell? ⟨z+2,2,none⟩=some (.slice TA ops.length tc):=fun W u=>t_2 W (UU.out.trans u)
   have hr0:∀W,Upd No wr W→W.cell? ⟨z+3,0,none⟩=some (.slice A txs.length c):=fun W u=>h_0 W (UU.out.trans u)
   have hr1:∀W,Upd No wr W→W.cell? ⟨z+3,1,none⟩=some (.slice B ords.length d):=fun W u=>h_1 W (UU.out.trans u)
   clear v_0 v_1 v_2 v_3 v_4 v_5 v_6 g_0 g_1 g_2 g_3 g_4 g_5 g_6 t_0 t_1 t_2 h_0 h_1;have DL:=D2.out;have DW:=D0.out;have DO:=D1.out;obtain⟨ltx,hltx⟩:txs.length≤12∧∀t∈txs,t.ops.length≤24:=ZbD HLB.out;have hlo:ords.length≤24:=(ZfA HLB.out).1;have C1:=Qh (fun W=>Zfn W e);have C2:=Qh (fun W=>Zjf W e);have C3:=Qh (fun W=>ZiF W e);have C4:=Qh (fun W=>Znp W e);have C5:=Qh (show∀W:World,Calls Try.prog 10 #[.agg #[.bool b0,.bool b1,.bool b2,.bool b3,.bool b4,.bool b5,.int .i64 lv]] W fun e w'=>e= .returned (.string (ZfV lv (f6 b0 b1 b2 b3 b4 b5)))∧Upd No W w' from fun W=>Zmw W (f6 b0 b1 b2 b3 b4 b5) lv);have C6:=Qh (show∀W:World,Calls Try.prog 11 #[.agg #[.bool b0,.bool b1,.bool b2,.bool b3,.bool b4,.bool b5,.int .i64 lv]] W fun e w'=>e= .returned (.string (ZfV lv (f6 b0 b1 b2 b3 b4 b5)))∧Upd No W w' from fun W=>ZnT W (f6 b0 b1 b2 b3 b4 b5) lv);have C7:=Qh (fun W (u:Upd No wr W)=>ZiE W p is q X xc wl tx pl vt vk vn (GW.out W (UU.out.trans u)) (by omega) J1.out I1.out I2.out I3.out);have C8:=Qh (fun W (u:Upd No wr W)=>ZnR W p is q X xc wl tx pl vt vk vn (GW.out W (UU.out.trans u)) (by omega) J1.out I1.out I2.out I3.out);have C9:=Qh (fun W (u:Upd No wr W)=>pTx F W t0 td TA tc ops I4.out (GO.out W (UU.out.trans u)) (by omega) J2.out);have C10:=Qh (fun W (u:Upd No wr W)=>Zl7 F W t0 td TA tc ops I4.out (GO.out W (UU.out.trans u)) (by omega) J2.out);have C11:=Qh (fun W (u:Upd No wr W)=>Zk4 W txs A c B ords.length d un p (GH.out W (UU.out.trans u)).txs (by omega) (by omega) (fun t ht=>by have:=hltx t ht;omega) I6.out I5.out)
   have C12:=Qh (fun W (u:Upd No wr W)=>Znj W txs A c B ords.length d un p (GH.out W (UU.out.trans u)).txs (by omega) (by omega) (fun t ht=>by have:=hltx t ht;omega) I6.out I5.out);have C13:=Qh (fun W (u:Upd No wr W)=>Zhh F W S sc l (GS.out W (UU.out.trans u)) (by omega) (fun s hs=>by have:=HSM.out s hs;omega));have C14:=Qh (fun W (u:Upd No wr W)=>Zmq F W S sc l (GS.out W (UU.out.trans u)) (by omega) (fun s hs=>by have:=HSM.out s hs;omega));have hzt:=Zgd t0 td ops;unfold txS at C9;obtain⟨R1,hR1⟩:∃R,ZA e=R:=⟨_,rfl⟩;obtain⟨R2,hR2⟩:∃R,Zbe e=R:=⟨_,rfl⟩;obtain⟨R3,hR3⟩:∃R,ZfV lv (f6 b0 b1 b2 b3 b4 b5)=R:=⟨_,rfl⟩;obtain⟨R4,hR4⟩:∃R,ZaN p is wl tx pl vt vk vn=R:=⟨_,rfl⟩;obtain⟨R5,hR5⟩:∃R:ByteArray,⟨(ZD t0 td ops).toArray⟩=R:=⟨_,rfl⟩;obtain⟨R6,hR6⟩:∃R,ZcS txs.length ords.length (ZaO txs) un p=R:=⟨_,rfl⟩;obtain⟨R7,hR7⟩:∃R,Zd6 l=R:=⟨_,rfl⟩;rw[hR1]at C1 C2;rw[hR2]at C3 C4;rw[hR3]at C5 C6;rw[hR4]at C7 C8;rw[hR5]at C9 C10 hzt;rw[hR6]at C11 C12;rw[hR7]at C13 C14;have a1:=Zbq R1;have a2:=Zbq R2;have a3:=Zbq R3;have a4:=Zbq R4;have a5:=Zbq (R5++⟨#[10]⟩);have a6:=Zbq R6;have a7:=Zbq R7;have m1:(⟨#[10]⟩:ByteArray).size=1:=rfl;have p1:¬9223372036854775807<R5.size+1:=by omega
   clear hR1 hR2 hR3 hR4 hR5 hR6 hR7 hzt hltx ltx hlo;go_wp2;refine wp_region_noPanic ?_;refine wp_region_held_drew (S:=(fun W'=>Upd No wr W')) (by kernel_rfl) ?_ (fun hHeld=> ?_)
   ·(first|exact(Upd.refl No _).drew|exact hHeld.trans hu4)
   refine wpK 0 rfl ?_;refine wpK 2 rfl ?_;refine wpR [1] ?_;refine wpC rfl (fun K hK=> ?_) AllReadyH.nil;go_simp
   (first
  |(go_at_call 6;refine(C1.out _).mono ?_;rintro e w4 ⟨rfl,hu4⟩))
   try (go_wp2_with fail)
   refine hK.out _ _ ?_ (fun hHeld=> ?_)
   ·(first|exact(Upd.refl No _).drew|exact hHeld.trans hu4)
   clear hK K
   try simp only[Act.put,sT,sS,sZ]
   refine wpR [3] ?_;refine wpC rfl (fun K hK=> ?_) AllReadyH.nil;go_simp
   (first
  |(go_at_call 7;refine(C2.out _).mono ?_;rintro e w4 ⟨rfl,hu4⟩))
   try (go_wp2_with fail)
   refine hK.out _ _ ?_ (fun hHeld=> ?_)
   ·(first|exact(Upd.refl No _).drew|exact hHeld.trans hu4)
   clear hK K
   try simp only[Act.put,sT,sS,sZ]
   refine wpK 4 rfl ?_;refine wpK 5 rfl ?_;refine wpK 6 rfl ?_;refine wpK 8 rfl ?_;refine wpR [7] ?_;refine wpC rfl (fun K hK=> ?_) AllReadyH.nil;go_simp
   (first
  |(go_at_call 8;refine(C3.out _).mono ?_;rintro e w4 ⟨rfl,hu4⟩))
   try (go_wp2_with fail)
   refine hK.out _ _ ?_ (fun hHeld=> ?_)
   ·(first|exact(Upd.refl No _).drew|exact hHeld.trans hu4)
   clear hK K
   try simp only[Act.put,sT,sS,sZ]
   refine wpR [9] ?_;refine wpC rfl (fun K hK=> ?_) AllReadyH.nil;go_simp
   (first
  |(go_at_call 9;refine(C4.out _).mono ?_;rintro e w4 ⟨rfl,hu4⟩))
   try (go_wp2_with fail)
   refine hK.out _ _ ?_ (fun hHeld=> ?_)
   ·(first|exact(Upd.refl No _).drew|exact hHeld.trans hu4)
   clear hK K
   try simp only[Act.put,sT,sS,sZ]
   refine wpK 10 rfl ?_;refine wpK 11 rfl ?_;refine wpK 12 rfl ?_;refine wpK 13 rfl ?_;refine wpK 15 rfl ?_;refine wpR [14] ?_;refine wpC rfl (fun K hK=> ?_) AllReadyH.nil;go_simp
   (first
  |(go_at_call 10;refine(C5.out _).mono ?_;rintro e w4 ⟨rfl,hu4⟩))
   try (go_wp2_with fail)
   refine hK.out _ _ ?_ (fun hHeld=> ?_)
   ·(first|exact(Upd.refl No _).drew|exact hHeld.trans hu4)
   clear hK K
   try simp only[Act.put,sT,sS,sZ]
   refine wpR [16] ?_;refine wpC rfl (fun K hK=> ?_) AllReadyH.nil;go_simp
   (first
  |(go_at_call 11;refine(C6.out _).mono ?_;rintro e w4 ⟨rfl,hu4⟩))
   try (go_wp2_with fail)
   refine hK.out _ _ ?_ (fun hHeld=> ?_)
   ·(first|exact(Upd.refl No _).drew|exact hHeld.trans hu4)
   clear hK K
   try simp only[Act.put,sT,sS,sZ]
   refine wpK 17 rfl ?_;refine wpK 18 rfl ?_;refine wpK 19 rfl ?_;refine wpK 20 rfl ?_;refine wpK 21 rfl ?_;refine wpK 22 rfl ?_;refine wpK 24 rfl ?_;refine wpK 25 rfl ?_;refine wpK 26 rfl ?_;refine wpR [23] ?_;refine wpC rfl (fun K hK=> ?_) AllReadyH.nil;go_simp
   (first
  |(go_at_call 12;refine(C7.out _ hHeld).mono ?_;rintro e w4 ⟨rfl,hu4⟩))
   try (go_wp2_with fail)
   refine hK.out _ _ ?_ (fun hHeld=> ?_)
   ·(first|exact(Upd.refl No _).drew|exact hHeld.trans hu4)
   clear hK K
   try simp only[Act.put,sT,sS,sZ]
   refine wpR [27] ?_;refine wpC rfl (fun K hK=> ?_) AllReadyH.nil;go_simp
   (first
  |(go_at_call 13;refine(C8.out _ hHeld).mono ?_;rintro e w4 ⟨rfl,hu4⟩))
   try (go_wp2_with fail)
   refine hK.out _ _ ?_ (fun hHeld=> ?_)
   ·(first|exact(Upd.refl No _).drew|exact hHeld.trans hu4)
   clear hK K
   try simp only[Act.put,sT,sS,sZ]
   refine wpK 28 rfl ?_;refine wpK 29 rfl ?_;refine wpK 30 rfl ?_;refine wpK 31 rfl ?_;refine wpK 33 rfl ?_;refine wpR [32] ?_;refine wpC rfl (fun K hK=> ?_) AllReadyH.nil;go_simp
   (first
  |(go_at_call 14;refine(C9.out _ hHeld).mono ?_;rintro e w4 ⟨rfl,hu4⟩))
   try (go_wp2_with fail)
   refine hK.out _ _ ?_ (fun hHeld=> ?_)
   ·(first|exact(Upd.refl No _).drew|exact hHeld.trans hu4)
   clear hK K
   try simp only[Act.put,sT,sS,sZ]
   refine wpR [34] ?_;refine wpC rfl (fun K hK=> ?_) AllReadyH.nil;go_simp
   (first
  |(go_at_call 15;refine(C10.out _ hHeld).mono ?_;rintro e w4 ⟨rfl,hu4⟩))
   try (go_wp2_with fail)
   refine hK.out _ _ ?_ (fun hHeld=> ?_)
   ·(first|exact(Upd.refl No _).drew|exact hHeld.trans hu4)
   clear hK K
   try simp only[Act.put,sT,sS,sZ]
   refine wpK 35 rfl ?_;refine wpK 36 rfl ?_;refine wpK 37 rfl ?_;refine wpK 38 rfl ?_;refine wpK 39 rfl ?_;refine wpK 40 rfl ?_;refine wpK 41 rfl ?_;refine wpK 43 rfl ?_;refine wpK 44 rfl ?_;refine wpK 45 rfl ?_;refine wpR [42] ?_;refine wpC rfl (fun K hK=> ?_) AllReadyH.nil;go_simp
   (first
  |(go_at_call 16;refine(C11.out _ hHeld).mono ?_;rintro e w4 ⟨rfl,hu4⟩))
   try (go_wp2_with fail)
   refine hK.out _ _ ?_ (fun hHeld=> ?_)
   ·(first|exact(Upd.refl No _).drew|exact hHeld.trans hu4)
   clear hK K
   try simp only[Act.put,sT,sS,sZ]
   refine wpR [46] ?_;refine wpC rfl (fun K hK=> ?_) AllReadyH.nil;go_simp
   (first
  |(go_at_call 17;refine(C12.out _ hHeld).mono ?_;rintro e w4 ⟨rfl,hu4⟩))
   try (go_wp2_with fail)
   refine hK.out _ _ ?_ (fun hHeld=> ?_)
   ·(first|exact(Upd.refl No _).drew|exact hHeld.trans hu4)
   clear hK K
   try simp only[Act.put,sT,sS,sZ]
   refine wpK 47 rfl ?_;refine wpK 48 rfl ?_;refine wpK 49 rfl ?_;refine wpK 50 rfl ?_;refine wpK 52 rfl ?_;refine wpR [51] ?_;refine wpC rfl (fun K hK=> ?_) AllReadyH.nil;go_simp
   (first
  |(go_at_call 18;refine(C13.out _ hHeld).mono ?_;rintro e w4 ⟨rfl,hu4⟩))
   try (go_wp2_with fail)
   refine hK.out _ _ ?_ (fun hHeld=> ?_)
   ·(first|exact(Upd.refl No _).drew|exact hHeld.trans hu4)
   clear hK K
   try simp only[Act.put,sT,sS,sZ]
   refine wpR [53] ?_;refine wpC rfl (fun K hK=> ?_) AllReadyH.nil;go_simp
   (first
  |(go_at_call 19;refine(C14.out _ hHeld).mono ?_;rintro e w4 ⟨rfl,hu4⟩))
   try (go_wp2_with fail)
   refine hK.out _ _ ?_ (fun hHeld=> ?_)
   ·(first|exact(Upd.refl No _).drew|exact hHeld.trans hu4)
   clear hK K
   try simp only[Act.put,sT,sS,sZ]
   refine wpK 54 rfl ?_;refine wpK 55 rfl ?_;refine wpK 56 rfl ?_;refine wpR [57] ?_;refine wpC rfl (fun K hK=> ?_) AllReadyH.nil;go_simp
   (first
  |(go_at_call 5;refine(L.out _).mono ?_;rintro e w4 ⟨rfl,hu4⟩))
   try (go_wp2_with fail)
   refine hK.out _ _ ?_ (fun hHeld=> ?_)
   ·(first|exact(Upd.refl No _).drew|exact hHeld.trans hu4)
   clear hK K
   try simp only[Act.put,sT,sS,sZ]
   refine wpK 58 rfl ?_;refine wpK 59 rfl ?_;refine wpD (NoPanic.normal ?_);go_wp2
   go_ret
   exact⟨rfl,U0.out.trans (UU.out.trans hHeld)⟩
end
end Go.Proofs.Ytdbjokfejmgepaa
