/- Witnesses: the answers that the document gives. -/
import Derived.Test.YticmndpiehinjaaGreatMbj
import Derived.Test.YticmndpiehinjaaGreatMbz
namespace Go.Proofs.YticmndpiehinjaaGreat
set_option linter.unusedVariables false
set_option linter.unusedSimpArgs false
section
open Go.RowKit
theorem ToldW.part {w:World} {x:HWit×Bool} {e:Ending} {w':World} (h:ToldW w x e w') {p r0 r1 r2 r3 r4:Int} {d:List Edge} {b:Bool} {n:Nat} (hx:x=(⟨p,d,⟨r0,r1,⟨r2,r3,r4⟩⟩⟩,b)) (hn:d.length=n):
  ∃A c,e= .returned (.tuple #[.agg #[.int .i64 p,.slice A n c,.int .i64 r0,.int .i64 r1,.int .i64 r2,.int .i64 r3,.int .i64 r4],.bool b])∧EdX w' A d∧Upd No w w':=by
 subst hx hn;obtain⟨A,c,h1,h2,h3⟩:=h;exact⟨A,c,h1,⟨_,h2⟩,h3⟩
section
variable {F:Nat→Prop} {w:World} {n:Nat} {p:Int} {x:HWit×Bool}
theorem Zka (H:(Zaj n).lies F w) (hl:Z0 (Zaj n)=true) (hx:ofX (Zaj n) p=x):
  Calls Tryz.prog 6 #[.agg #[.slice (some ⟨n+1+1+1,0,none⟩) 2 2,.slice (some ⟨n+1+1+1+1+1+1,0,none⟩) 2 2],.int .i64 p] w (ToldW w x):=by
 subst hx;exact wOf F w (Zaj n).txs (Zaj n).ords _ 2 _ 2 p H hl
theorem ZpV (H:(ZcF n).lies F w) (hl:Z0 (ZcF n)=true) (hx:ofX (ZcF n) p=x):
  Calls Tryz.prog 6 #[.agg #[.slice (some ⟨n+1+1,0,none⟩) 2 2,.slice none 0 0],.int .i64 p] w (ToldW w x):=by
 subst hx;exact wOf F w (ZcF n).txs (ZcF n).ords _ 2 _ 0 p H hl
theorem ZpM {A:Option Addr} (h:EdX w A [e1,e2]) {c:Nat} (hx:Zbn [e1,e2] p=x):Calls Tryz.prog 9 #[.slice A 2 c,.int .i64 p] w (ToldW w x):=by
 subst hx;obtain⟨G,h⟩:=h;exact ZlV G w A c [e1,e2] p h (by decide)
end
theorem okE:∀e∈[e1,e2],e.ok:=fun e he=>by
 simp only[List.mem_cons,List.not_mem_nil,or_false]at he;rcases he with rfl|rfl
 ·exact⟨⟨by decide,by decide⟩,⟨by decide,by decide⟩,by decide,by decide⟩
 ·exact⟨⟨by decide,by decide⟩,⟨by decide,by decide⟩,by decide,by decide⟩
theorem txE:(⟨(Zav [e1,e2] [e1,e2].length).toArray⟩:ByteArray)=⟨#[49,32,114,119,49,32,50,32,114,119,50,32,49]⟩:=by kernel_rfl
theorem Zsw {w:World} {A:Option Addr} {c:Nat} (h:EdX w A [e1,e2]):Calls Tryz.prog 15 #[.slice A 2 c] w fun e w'=>e= .returned (.string ⟨#[49,32,114,119,49,32,50,32,114,119,50,32,49]⟩)∧Upd No w w':=
 Zsv (l:=[e1,e2]) h (by decide) okE rfl txE
theorem ZjT {w:World} {A B:Option Addr} {c d n m:Nat} {ap a0 a1 a2 a3 a4 bp b0 b1 b2 b3 b4:Int} {aw bw:List Edge} {v:Bool} (ha:EdX w A aw) (hb:EdX w B bw) (la:aw.length≤100000) (lb:bw.length≤100000) (hn:aw.length=n) (hm:bw.length=m)
  (hv:decide ((⟨ap,aw,⟨a0,a1,⟨a2,a3,a4⟩⟩⟩:HWit)=⟨bp,bw,⟨b0,b1,⟨b2,b3,b4⟩⟩⟩)=v):
  Calls Tryz.prog 13 #[.agg #[.int .i64 ap,.slice A n c,.int .i64 a0,.int .i64 a1,.int .i64 a2,.int .i64 a3,.int .i64 a4],.agg #[.int .i64 bp,.slice B m d,.int .i64 b0,.int .i64 b1,.int .i64 b2,.int .i64 b3,.int .i64 b4]] w fun e w'=>e= .returned (.bool v)∧Upd No w w':=by
 subst hn hm hv;exact Zst w A B c d ⟨ap,aw,⟨a0,a1,⟨a2,a3,a4⟩⟩⟩ ⟨bp,bw,⟨b0,b1,⟨b2,b3,b4⟩⟩⟩ ha hb la lb
theorem Zkp {w:World} {A B:Option Addr} {c d n m:Nat} {ap a0 a1 a2 a3 a4 bp b0 b1 b2 b3 b4:Int} {aw bw:List Edge} {v:Bool} (ha:EdX w A aw) (hb:EdX w B bw) (la:aw.length≤100000) (lb:bw.length≤100000) (hn:aw.length=n) (hm:bw.length=m)
  (hv:ZdO ⟨ap,aw,⟨a0,a1,⟨a2,a3,a4⟩⟩⟩ ⟨bp,bw,⟨b0,b1,⟨b2,b3,b4⟩⟩⟩=v):
  Calls Tryz.prog 11 #[.agg #[.int .i64 ap,.slice A n c,.int .i64 a0,.int .i64 a1,.int .i64 a2,.int .i64 a3,.int .i64 a4],.agg #[.int .i64 bp,.slice B m d,.int .i64 b0,.int .i64 b1,.int .i64 b2,.int .i64 b3,.int .i64 b4]] w fun e w'=>e= .returned (.bool v)∧Upd No w w':=by
 subst hn hm hv;exact Zsu w A B c d ⟨ap,aw,⟨a0,a1,⟨a2,a3,a4⟩⟩⟩ ⟨bp,bw,⟨b0,b1,⟨b2,b3,b4⟩⟩⟩ ha hb la lb
section
variable {w:World} {A B:Option Addr} {c d:Nat}
theorem Zrr (ha:EdX w A [e1,e2]) (hb:EdX w B [e1,e2]):Calls Tryz.prog 13 #[.agg #[.int .i64 5,.slice A 2 c,.int .i64 0,.int .i64 0,.int .i64 0,.int .i64 0,.int .i64 0],.agg #[.int .i64 5,.slice B 2 d,.int .i64 0,.int .i64 0,.int .i64 0,.int .i64 0,.int .i64 0]] w fun e w'=>e= .returned (.bool true)∧Upd No w w':=
 ZjT ha hb (by decide) (by decide) rfl rfl (by decide)
theorem Zrq (ha:EdX w A [e1,e2]):Calls Tryz.prog 13 #[.agg #[.int .i64 5,.slice A 2 c,.int .i64 0,.int .i64 0,.int .i64 0,.int .i64 0,.int .i64 0],.agg #[.int .i64 2,.slice B 0 d,.int .i64 2,.int .i64 0,.int .i64 1,.int .i64 5,.int .i64 1]] w fun e w'=>e= .returned (.bool false)∧Upd No w w':=
 ZjT ha (EdX.nil (A:=B)) (by decide) (by decide) rfl rfl (by decide)
theorem ZrV (hb:EdX w B [e1,e2]):Calls Tryz.prog 11 #[.agg #[.int .i64 2,.slice A 0 c,.int .i64 2,.int .i64 0,.int .i64 1,.int .i64 5,.int .i64 1],.agg #[.int .i64 5,.slice B 2 d,.int .i64 0,.int .i64 0,.int .i64 0,.int .i64 0,.int .i64 0]] w fun e w'=>e= .returned (.bool true)∧Upd No w w':=
 Zkp (EdX.nil (A:=A)) hb (by decide) (by decide) rfl rfl (by kernel_rfl)
theorem ZrU (ha:EdX w A [e1,e2]) (hb:EdX w B [e1,e2]):Calls Tryz.prog 11 #[.agg #[.int .i64 5,.slice A 2 c,.int .i64 0,.int .i64 0,.int .i64 0,.int .i64 0,.int .i64 0],.agg #[.int .i64 5,.slice B 2 d,.int .i64 0,.int .i64 0,.int .i64 0,.int .i64 0,.int .i64 0]] w fun e w'=>e= .returned (.bool false)∧Upd No w w':=
 Zkp ha hb (by decide) (by decide) rfl rfl (by kernel_rfl)
end
section
variable (n:Nat)
theorem o0:Z0 (Zaj n)=true:=by kernel_rfl
theorem o1:ofX (Zaj n) 5=(⟨5,[e1,e2],⟨0,0,⟨0,0,0⟩⟩⟩,true):=by kernel_rfl
theorem o2:ofX (Zaj n) 4=(⟨0,[],⟨0,0,⟨0,0,0⟩⟩⟩,false):=by kernel_rfl
theorem o3:ofX (Zaj n) 0=(⟨0,[],⟨0,0,⟨0,0,0⟩⟩⟩,false):=by kernel_rfl
theorem o4:Z0 (ZcF n)=true:=by kernel_rfl
theorem o5:ofX (ZcF n) 2=(⟨2,[],⟨2,0,⟨1,5,1⟩⟩⟩,true):=by kernel_rfl
theorem o6:ofX (ZcF n) 3=(⟨0,[],⟨0,0,⟨0,0,0⟩⟩⟩,false):=by kernel_rfl
theorem o7:Zbn [e1,e2] 5=(⟨5,[e1,e2],⟨0,0,⟨0,0,0⟩⟩⟩,true):=by kernel_rfl
theorem o8:Zbn [e1,e2] 2=(⟨0,[],⟨0,0,⟨0,0,0⟩⟩⟩,false):=by kernel_rfl
end
set_option maxRecDepth 100000 in
set_option maxHeartbeats 8000000 in
theorem ZqG (w:World):Calls Tryz.prog 5 #[] w fun e w'=>e= .returned (.bool true)∧Upd No w w':=by
 go_enter Tryz.func5,Tryz.ntmps5
 go_wp2_with fail
 refine(Zsx _).mono ?_;rintro e w1 ⟨rfl,hs,hu1⟩;obtain⟨N,hN⟩:∃N,w.heap.size=N:=⟨_,rfl⟩;rw[hN]at hs;simp only[hN];obtain⟨wh,hwh⟩:∃wh,w1.alloc (.cells #[.slice (some ⟨N+1+1+1,0,none⟩) 2 2,.slice (some ⟨N+1+1+1+1+1+1,0,none⟩) 2 2] 25)=wh:=⟨_,rfl⟩;have uh:Upd No w1 wh:=by rw[←hwh];exact(Upd.refl No w1).alloc _
 have bH:Blk wh w1.heap.size 25 [.slice (some ⟨N+1+1+1,0,none⟩) 2 2,.slice (some ⟨N+1+1+1+1+1+1,0,none⟩) 2 2]:=by rw[←hwh];exact Blk.new w1 _ _
 have h0:∀W,Upd No wh W→W.cell? ⟨w1.heap.size,0,none⟩=some (.slice (some ⟨N+1+1+1,0,none⟩) 2 2):=fun W u=>(bH.upd u id).cell 0
 have h1:∀W,Upd No wh W→W.cell? ⟨w1.heap.size,1,none⟩=some (.slice (some ⟨N+1+1+1+1+1+1,0,none⟩) 2 2):=fun W u=>(bH.upd u id).cell 1
 have HS:=Qh (hs.upd uh (fun _ _=>id));have UH:=Qh (hu1.trans uh);have hhz:Upd No wh wh:=Upd.refl _ _;clear hs uh hu1 bH
 go_wp2_with fail
 refine(Zka HS.out (o0 N) (o1 N)).mono ?_;rintro e w2 hh;obtain⟨A2,c2,rfl,hx2,hu2⟩:=hh.part rfl rfl;simp only[List.length_cons,List.length_nil,Nat.zero_add];have ua:Upd No wh (w2.alloc (.cells #[.int .i64 5,.slice A2 2 c2,.int .i64 0,.int .i64 0,.int .i64 0,.int .i64 0,.int .i64 0] 32)):=hu2.alloc _;have BA:=Qh (Blk.new w2 32 [.int .i64 5,.slice A2 2 c2,.int .i64 0,.int .i64 0,.int .i64 0,.int .i64 0,.int .i64 0]);have HE2:=Qh (hx2.upd ((Upd.refl No w2).alloc (.cells #[.int .i64 5,.slice A2 2 c2,.int .i64 0,.int .i64 0,.int .i64 0,.int .i64 0,.int .i64 0] 32)));clear hx2 hu2 hh
 go_wp2_with fail
 refine(Zka (HS.out.upd ua (fun _ _=>id)) (o0 N) (o2 N)).mono ?_;rintro e w3 hh;obtain⟨A3,c3,rfl,_,hu3⟩:=hh.part rfl rfl;simp only[List.length_nil];have BA3:=Qh (BA.out.upd hu3 id);have HE3:=Qh (HE2.out.upd hu3);have u3:=ua.trans hu3;have ub:Upd No wh (w3.alloc (.cells #[.int .i64 0,.slice A3 0 c3,.int .i64 0,.int .i64 0,.int .i64 0,.int .i64 0,.int .i64 0] 32)):=u3.alloc _;clear hh hu3 ua BA HE2
 go_wp2_with fail
 refine(Zka (HS.out.upd ub (fun _ _=>id)) (o0 N) (o3 N)).mono ?_;rintro e w4 hh;obtain⟨A4,c4,rfl,_,hu4⟩:=hh.part rfl rfl;simp only[List.length_nil];have uc:Upd No wh (w4.alloc (.cells #[.int .i64 0,.slice A4 0 c4,.int .i64 0,.int .i64 0,.int .i64 0,.int .i64 0,.int .i64 0] 32)):=(ub.trans hu4).alloc _;have uac:Upd No w3 (w4.alloc (.cells #[.int .i64 0,.slice A4 0 c4,.int .i64 0,.int .i64 0,.int .i64 0,.int .i64 0,.int .i64 0] 32)):=(((Upd.refl No w3).alloc _).trans hu4).alloc _;have BA4:=Qh (BA3.out.upd uac id);have HE4:=Qh (HE3.out.upd uac);have UC:=Qh uc;clear hh hu4 h0 h1 hhz uac uc ub u3 BA3 HE3
 go_wp2_with fail
 have ud:Upd No (w4.alloc (.cells #[.int .i64 0,.slice A4 0 c4,.int .i64 0,.int .i64 0,.int .i64 0,.int .i64 0,.int .i64 0] 32)) (((((w4.alloc (.cells #[.int .i64 0,.slice A4 0 c4,.int .i64 0,.int .i64 0,.int .i64 0,.int .i64 0,.int .i64 0] 32)).alloc (.cells #[.bool false,.int .i64 5,.int .i64 0,.int .i64 0] 48)).alloc (.cells #[.bool true,.int .i64 5,.int .i64 1,.int .i64 1] 48)).alloc (.cells #[.int .i64 1,.bool false,.slice (some ⟨w4.heap.size+1,0,none⟩) 1 1,.int .i64 2,.bool true,.slice (some ⟨w4.heap.size+1+1,0,none⟩) 1 1] 42)).alloc (.cells #[.slice (some ⟨w4.heap.size+1+1+1,0,none⟩) 2 2,.slice none 0 0] 25)):=((((Upd.refl No _).alloc _).alloc _).alloc _).alloc _;have bk1:Blk (((((w4.alloc (.cells #[.int .i64 0,.slice A4 0 c4,.int .i64 0,.int .i64 0,.int .i64 0,.int .i64 0,.int .i64 0] 32)).alloc (.cells #[.bool false,.int .i64 5,.int .i64 0,.int .i64 0] 48)).alloc (.cells #[.bool true,.int .i64 5,.int .i64 1,.int .i64 1] 48)).alloc (.cells #[.int .i64 1,.bool false,.slice (some ⟨w4.heap.size+1,0,none⟩) 1 1,.int .i64 2,.bool true,.slice (some ⟨w4.heap.size+1+1,0,none⟩) 1 1] 42)).alloc (.cells #[.slice (some ⟨w4.heap.size+1+1+1,0,none⟩) 2 2,.slice none 0 0] 25)) (w4.heap.size+1) 48 [.bool false,.int .i64 5,.int .i64 0,.int .i64 0]:=((((Blk.new_at (by simp only[World.size_alloc])).alloc _).alloc _).alloc _);have bk2:Blk (((((w4.alloc (.cells #[.int .i64 0,.slice A4 0 c4,.int .i64 0,.int .i64 0,.int .i64 0,.int .i64 0,.int .i64 0] 32)).alloc (.cells #[.bool false,.int .i64 5,.int .i64 0,.int .i64 0] 48)).alloc (.cells #[.bool true,.int .i64 5,.int .i64 1,.int .i64 1] 48)).alloc (.cells #[.int .i64 1,.bool false,.slice (some ⟨w4.heap.size+1,0,none⟩) 1 1,.int .i64 2,.bool true,.slice (some ⟨w4.heap.size+1+1,0,none⟩) 1 1] 42)).alloc (.cells #[.slice (some ⟨w4.heap.size+1+1+1,0,none⟩) 2 2,.slice none 0 0] 25)) (w4.heap.size+1+1) 48 [.bool true,.int .i64 5,.int .i64 1,.int .i64 1]:=(((Blk.new_at (by simp only[World.size_alloc])).alloc _).alloc _)
 have bk3:Blk (((((w4.alloc (.cells #[.int .i64 0,.slice A4 0 c4,.int .i64 0,.int .i64 0,.int .i64 0,.int .i64 0,.int .i64 0] 32)).alloc (.cells #[.bool false,.int .i64 5,.int .i64 0,.int .i64 0] 48)).alloc (.cells #[.bool true,.int .i64 5,.int .i64 1,.int .i64 1] 48)).alloc (.cells #[.int .i64 1,.bool false,.slice (some ⟨w4.heap.size+1,0,none⟩) 1 1,.int .i64 2,.bool true,.slice (some ⟨w4.heap.size+1+1,0,none⟩) 1 1] 42)).alloc (.cells #[.slice (some ⟨w4.heap.size+1+1+1,0,none⟩) 2 2,.slice none 0 0] 25)) (w4.heap.size+1+1+1) 42 [.int .i64 1,.bool false,.slice (some ⟨w4.heap.size+1,0,none⟩) 1 1,.int .i64 2,.bool true,.slice (some ⟨w4.heap.size+1+1,0,none⟩) 1 1]:=((Blk.new_at (by simp only[World.size_alloc])).alloc _);have bk4:Blk (((((w4.alloc (.cells #[.int .i64 0,.slice A4 0 c4,.int .i64 0,.int .i64 0,.int .i64 0,.int .i64 0,.int .i64 0] 32)).alloc (.cells #[.bool false,.int .i64 5,.int .i64 0,.int .i64 0] 48)).alloc (.cells #[.bool true,.int .i64 5,.int .i64 1,.int .i64 1] 48)).alloc (.cells #[.int .i64 1,.bool false,.slice (some ⟨w4.heap.size+1,0,none⟩) 1 1,.int .i64 2,.bool true,.slice (some ⟨w4.heap.size+1+1,0,none⟩) 1 1] 42)).alloc (.cells #[.slice (some ⟨w4.heap.size+1+1+1,0,none⟩) 2 2,.slice none 0 0] 25)) (w4.heap.size+1+1+1+1) 25 [.slice (some ⟨w4.heap.size+1+1+1,0,none⟩) 2 2,.slice none 0 0]:=Blk.new_at (by simp only[World.size_alloc]);have BA5:=Qh (BA4.out.upd ud id);have HE5:=Qh (HE4.out.upd ud);have UD:=Qh (UC.out.trans ud);have HB:=Qh (Zpz bk1 bk2 bk3)
 have BH:=Qh bk4;clear BA4 HE4 ud bk1 bk2 bk3 bk4 UC;obtain⟨wd,hwd⟩:∃wd,(((((w4.alloc (.cells #[.int .i64 0,.slice A4 0 c4,.int .i64 0,.int .i64 0,.int .i64 0,.int .i64 0,.int .i64 0] 32)).alloc (.cells #[.bool false,.int .i64 5,.int .i64 0,.int .i64 0] 48)).alloc (.cells #[.bool true,.int .i64 5,.int .i64 1,.int .i64 1] 48)).alloc (.cells #[.int .i64 1,.bool false,.slice (some ⟨w4.heap.size+1,0,none⟩) 1 1,.int .i64 2,.bool true,.slice (some ⟨w4.heap.size+1+1,0,none⟩) 1 1] 42)).alloc (.cells #[.slice (some ⟨w4.heap.size+1+1+1,0,none⟩) 2 2,.slice none 0 0] 25))=wd:=⟨_,rfl⟩;rw[hwd]at BA5 HE5 UD HB BH ⊢;clear hwd;obtain⟨M,hM⟩:∃M,w4.heap.size+1=M:=⟨_,rfl⟩;simp only[hM]at HB BH ⊢;have g0:∀W,Upd No wd W→W.cell? ⟨M+1+1+1,0,none⟩=some (.slice (some ⟨M+1+1,0,none⟩) 2 2):=fun W u=>(BH.out.upd u id).cell 0
 have g1:∀W,Upd No wd W→W.cell? ⟨M+1+1+1,1,none⟩=some (.slice none 0 0):=fun W u=>(BH.out.upd u id).cell 1
 have a0:∀W,Upd No wd W→W.cell? ⟨w2.heap.size,0,none⟩=some (.int .i64 5):=fun W u=>(BA5.out.upd u id).cell 0
 have a1:∀W,Upd No wd W→W.cell? ⟨w2.heap.size,1,none⟩=some (.slice A2 2 c2):=fun W u=>(BA5.out.upd u id).cell 1
 have a2:∀W,Upd No wd W→W.cell? ⟨w2.heap.size,2,none⟩=some (.int .i64 0):=fun W u=>(BA5.out.upd u id).cell 2
 have a3:∀W,Upd No wd W→W.cell? ⟨w2.heap.size,3,none⟩=some (.int .i64 0):=fun W u=>(BA5.out.upd u id).cell 3
 have a4:∀W,Upd No wd W→W.cell? ⟨w2.heap.size,4,none⟩=some (.int .i64 0):=fun W u=>(BA5.out.upd u id).cell 4
 have a5:∀W,Upd No wd W→W.cell? ⟨w2.heap.size,5,none⟩=some (.int .i64 0):=fun W u=>(BA5.out.upd u id).cell 5
 have a6:∀W,Upd No wd W→W.cell? ⟨w2.heap.size,6,none⟩=some (.int .i64 0):=fun W u=>(BA5.out.upd u id).cell 6
 clear BH;refine(ZpV HB.out (o4 M) (o5 M)).mono ?_;rintro e w5 hh;obtain⟨A5,c5,rfl,_,hu5⟩:=hh.part rfl rfl;simp only[List.length_nil];have uv:Upd No wd (w5.alloc (.cells #[.int .i64 2,.slice A5 0 c5,.int .i64 2,.int .i64 0,.int .i64 1,.int .i64 5,.int .i64 1] 32)):=hu5.alloc _;have BV:=Qh (Blk.new w5 32 [.int .i64 2,.slice A5 0 c5,.int .i64 2,.int .i64 0,.int .i64 1,.int .i64 5,.int .i64 1]);clear hh hu5
 go_wp2_with fail
 refine(ZpV (HB.out.upd uv (fun _ _=>id)) (o4 M) (o6 M)).mono ?_;rintro e w6 hh;obtain⟨A6,c6,rfl,_,hu6⟩:=hh.part rfl rfl;simp only[List.length_nil];have BV6:=Qh (BV.out.upd hu6 id);have u6:Upd No wd (w6.alloc (.cells #[.int .i64 0,.slice A6 0 c6,.int .i64 0,.int .i64 0,.int .i64 0,.int .i64 0,.int .i64 0] 32)):=(uv.trans hu6).alloc _;clear hh hu6 uv BV g0 g1 HB
 go_wp2_with fail
 refine(ZpM (HE5.out.upd u6) o7).mono ?_;rintro e w7 hh;obtain⟨A7,c7,rfl,hx7,hu7⟩:=hh.part rfl rfl;simp only[List.length_cons,List.length_nil,Nat.zero_add];have BV7:=Qh (BV6.out.upd (((Upd.refl No w6).alloc _).trans hu7) id);have u7:Upd No wd (w7.alloc (.cells #[.int .i64 5,.slice A7 2 c7,.int .i64 0,.int .i64 0,.int .i64 0,.int .i64 0,.int .i64 0] 32)):=(u6.trans hu7).alloc _;have BU:=Qh (Blk.new w7 32 [.int .i64 5,.slice A7 2 c7,.int .i64 0,.int .i64 0,.int .i64 0,.int .i64 0,.int .i64 0]);have HX7:=Qh (hx7.upd ((Upd.refl No w7).alloc (.cells #[.int .i64 5,.slice A7 2 c7,.int .i64 0,.int .i64 0,.int .i64 0,.int .i64 0,.int .i64 0] 32)));clear hh hu7 u6 BV6 hx7
 go_wp2_with fail
 refine(ZpM (HE5.out.upd u7) o8).mono ?_;rintro e w8 hh;obtain⟨A8,c8,rfl,_,hu8⟩:=hh.part rfl rfl;simp only[List.length_nil];have u8:Upd No wd (w8.alloc (.cells #[.int .i64 0,.slice A8 0 c8,.int .i64 0,.int .i64 0,.int .i64 0,.int .i64 0,.int .i64 0] 32)):=(u7.trans hu8).alloc _;have u78:Upd No w7 (w8.alloc (.cells #[.int .i64 0,.slice A8 0 c8,.int .i64 0,.int .i64 0,.int .i64 0,.int .i64 0,.int .i64 0] 32)):=(((Upd.refl No w7).alloc _).trans hu8).alloc _;have u88:Upd No (w7.alloc (.cells #[.int .i64 5,.slice A7 2 c7,.int .i64 0,.int .i64 0,.int .i64 0,.int .i64 0,.int .i64 0] 32)) (w8.alloc (.cells #[.int .i64 0,.slice A8 0 c8,.int .i64 0,.int .i64 0,.int .i64 0,.int .i64 0,.int .i64 0] 32)):=hu8.alloc _;have BV8:=Qh (BV7.out.upd u78 id);have BU8:=Qh (BU.out.upd u88 id);have HX8:=Qh (HX7.out.upd u88);have HE8:=Qh (HE5.out.upd u8);have UZ:=Qh (UH.out.trans (UD.out.trans u8));have BA8:=Qh (BA5.out.upd u8 id);clear hh hu8 u7 u78 u88 u8 a0 a1 a2 a3 a4 a5 a6 BV7 BU HX7 HE5 UH UD BA5;have a0:∀W,Upd No (w8.alloc (.cells #[.int .i64 0,.slice A8 0 c8,.int .i64 0,.int .i64 0,.int .i64 0,.int .i64 0,.int .i64 0] 32)) W→W.cell? ⟨w2.heap.size,0,none⟩=some (.int .i64 5):=fun W u=>(BA8.out.upd u id).cell 0
 have a1:∀W,Upd No (w8.alloc (.cells #[.int .i64 0,.slice A8 0 c8,.int .i64 0,.int .i64 0,.int .i64 0,.int .i64 0,.int .i64 0] 32)) W→W.cell? ⟨w2.heap.size,1,none⟩=some (.slice A2 2 c2):=fun W u=>(BA8.out.upd u id).cell 1
 have a2:∀W,Upd No (w8.alloc (.cells #[.int .i64 0,.slice A8 0 c8,.int .i64 0,.int .i64 0,.int .i64 0,.int .i64 0,.int .i64 0] 32)) W→W.cell? ⟨w2.heap.size,2,none⟩=some (.int .i64 0):=fun W u=>(BA8.out.upd u id).cell 2
 have a3:∀W,Upd No (w8.alloc (.cells #[.int .i64 0,.slice A8 0 c8,.int .i64 0,.int .i64 0,.int .i64 0,.int .i64 0,.int .i64 0] 32)) W→W.cell? ⟨w2.heap.size,3,none⟩=some (.int .i64 0):=fun W u=>(BA8.out.upd u id).cell 3
 have a4:∀W,Upd No (w8.alloc (.cells #[.int .i64 0,.slice A8 0 c8,.int .i64 0,.int .i64 0,.int .i64 0,.int .i64 0,.int .i64 0] 32)) W→W.cell? ⟨w2.heap.size,4,none⟩=some (.int .i64 0):=fun W u=>(BA8.out.upd u id).cell 4
 have a5:∀W,Upd No (w8.alloc (.cells #[.int .i64 0,.slice A8 0 c8,.int .i64 0,.int .i64 0,.int .i64 0,.int .i64 0,.int .i64 0] 32)) W→W.cell? ⟨w2.heap.size,5,none⟩=some (.int .i64 0):=fun W u=>(BA8.out.upd u id).cell 5
 have a6:∀W,Upd No (w8.alloc (.cells #[.int .i64 0,.slice A8 0 c8,.int .i64 0,.int .i64 0,.int .i64 0,.int .i64 0,.int .i64 0] 32)) W→W.cell? ⟨w2.heap.size,6,none⟩=some (.int .i64 0):=fun W u=>(BA8.out.upd u id).cell 6
 have b0:∀W,Upd No (w8.alloc (.cells #[.int .i64 0,.slice A8 0 c8,.int .i64 0,.int .i64 0,.int .i64 0,.int .i64 0,.int .i64 0] 32)) W→W.cell? ⟨w5.heap.size,0,none⟩=some (.int .i64 2):=fun W u=>(BV8.out.upd u id).cell 0
 have b1:∀W,Upd No (w8.alloc (.cells #[.int .i64 0,.slice A8 0 c8,.int .i64 0,.int .i64 0,.int .i64 0,.int .i64 0,.int .i64 0] 32)) W→W.cell? ⟨w5.heap.size,1,none⟩=some (.slice A5 0 c5):=fun W u=>(BV8.out.upd u id).cell 1
 have b2:∀W,Upd No (w8.alloc (.cells #[.int .i64 0,.slice A8 0 c8,.int .i64 0,.int .i64 0,.int .i64 0,.int .i64 0,.int .i64 0] 32)) W→W.cell? ⟨w5.heap.size,2,none⟩=some (.int .i64 2):=fun W u=>(BV8.out.upd u id).cell 2
 have b3:∀W,Upd No (w8.alloc (.cells #[.int .i64 0,.slice A8 0 c8,.int .i64 0,.int .i64 0,.int .i64 0,.int .i64 0,.int .i64 0] 32)) W→W.cell? ⟨w5.heap.size,3,none⟩=some (.int .i64 0):=fun W u=>(BV8.out.upd u id).cell 3
 have b4:∀W,Upd No (w8.alloc (.cells #[.int .i64 0,.slice A8 0 c8,.int .i64 0,.int .i64 0,.int .i64 0,.int .i64 0,.int .i64 0] 32)) W→W.cell? ⟨w5.heap.size,4,none⟩=some (.int .i64 1):=fun W u=>(BV8.out.upd u id).cell 4
 have b5:∀W,Upd No (w8.alloc (.cells #[.int .i64 0,.slice A8 0 c8,.int .i64 0,.int .i64 0,.int .i64 0,.int .i64 0,.int .i64 0] 32)) W→W.cell? ⟨w5.heap.size,5,none⟩=some (.int .i64 5):=fun W u=>(BV8.out.upd u id).cell 5
 have b6:∀W,Upd No (w8.alloc (.cells #[.int .i64 0,.slice A8 0 c8,.int .i64 0,.int .i64 0,.int .i64 0,.int .i64 0,.int .i64 0] 32)) W→W.cell? ⟨w5.heap.size,6,none⟩=some (.int .i64 1):=fun W u=>(BV8.out.upd u id).cell 6
 have c0:∀W,Upd No (w8.alloc (.cells #[.int .i64 0,.slice A8 0 c8,.int .i64 0,.int .i64 0,.int .i64 0,.int .i64 0,.int .i64 0] 32)) W→W.cell? ⟨w7.heap.size,0,none⟩=some (.int .i64 5):=fun W u=>(BU8.out.upd u id).cell 0
 have c1:∀W,Upd No (w8.alloc (.cells #[.int .i64 0,.slice A8 0 c8,.int .i64 0,.int .i64 0,.int .i64 0,.int .i64 0,.int .i64 0] 32)) W→W.cell? ⟨w7.heap.size,1,none⟩=some (.slice A7 2 c7):=fun W u=>(BU8.out.upd u id).cell 1
 have c2:∀W,Upd No (w8.alloc (.cells #[.int .i64 0,.slice A8 0 c8,.int .i64 0,.int .i64 0,.int .i64 0,.int .i64 0,.int .i64 0] 32)) W→W.cell? ⟨w7.heap.size,2,none⟩=some (.int .i64 0):=fun W u=>(BU8.out.upd u id).cell 2
 have c3:∀W,Upd No (w8.alloc (.cells #[.int .i64 0,.slice A8 0 c8,.int .i64 0,.int .i64 0,.int .i64 0,.int .i64 0,.int .i64 0] 32)) W→W.cell? ⟨w7.heap.size,3,none⟩=some (.int .i64 0):=fun W u=>(BU8.out.upd u id).cell 3
 have c4:∀W,Upd No (w8.alloc (.cells #[.int .i64 0,.slice A8 0 c8,.int .i64 0,.int .i64 0,.int .i64 0,.int .i64 0,.int .i64 0] 32)) W→W.cell? ⟨w7.heap.size,4,none⟩=some (.int .i64 0):=fun W u=>(BU8.out.upd u id).cell 4
 have c5:∀W,Upd No (w8.alloc (.cells #[.int .i64 0,.slice A8 0 c8,.int .i64 0,.int .i64 0,.int .i64 0,.int .i64 0,.int .i64 0] 32)) W→W.cell? ⟨w7.heap.size,5,none⟩=some (.int .i64 0):=fun W u=>(BU8.out.upd u id).cell 5
 have c6:∀W,Upd No (w8.alloc (.cells #[.int .i64 0,.slice A8 0 c8,.int .i64 0,.int .i64 0,.int .i64 0,.int .i64 0,.int .i64 0] 32)) W→W.cell? ⟨w7.heap.size,6,none⟩=some (.int .i64 0):=fun W u=>(BU8.out.upd u id).cell 6
 have hzz:Upd No (w8.alloc (.cells #[.int .i64 0,.slice A8 0 c8,.int .i64 0,.int .i64 0,.int .i64 0,.int .i64 0,.int .i64 0] 32)) (w8.alloc (.cells #[.int .i64 0,.slice A8 0 c8,.int .i64 0,.int .i64 0,.int .i64 0,.int .i64 0,.int .i64 0] 32)):=Upd.refl _ _
 go_wp2_with fail
 refine(Zsw HE8.out).mono ?_;rintro e w9 ⟨rfl,hu9⟩
 go_wp2_with fail
 refine(Zrr (HX8.out.upd hu9) (HE8.out.upd hu9)).mono ?_;rintro e w10 ⟨rfl,hu10'⟩;have hu10:=hu9.trans hu10';clear hu9 hu10'
 go_wp2_with fail
 refine(Zrq (HX8.out.upd hu10)).mono ?_;rintro e w11 ⟨rfl,hu11'⟩;have hu11:=hu10.trans hu11';clear hu10 hu11'
 go_wp2_with fail
 refine(ZrV (HE8.out.upd hu11)).mono ?_;rintro e w12 ⟨rfl,hu12'⟩;have hu12:=hu11.trans hu12';clear hu11 hu12'
 go_wp2_with fail
 refine(ZrU (HE8.out.upd hu12) (HE8.out.upd hu12)).mono ?_;rintro e w13 ⟨rfl,hu13⟩;go_wp2
 go_ret
 exact⟨rfl,(UZ.out.trans hu12).trans hu13⟩
end
end Go.Proofs.YticmndpiehinjaaGreat
