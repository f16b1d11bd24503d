/- What is said of a history's size; of a transaction. -/
import Derived.Test.YtdbjokfejmgepaaRaap
import Derived.Test.YtdbjokfejmgepaaRabc
namespace Go.Proofs.Ytdbjokfejmgepaa
set_option linter.unusedVariables false
set_option linter.unusedSimpArgs false
section
open Go.RowKit
section
variable {P:Program} {ops:Array Oper} {o:Oper} {a:Act} {Q:Exit→Act→World→Prop}
theorem Zcm {W:World} {K:Act→World→Prop} {E:Prop} (hgd:o.guard=none) {s x:Operand} {t:TypeId}
  (ho:o.op= .call {callee:= .builtin .append,args:= #[s,x],argTypes:= #[t,t]}) {e:TypeId} {size bytes:Nat} (hT:SlT P t e size bytes)
  {base:Nat} {v:Value} {n c:Nat} {ad:Addr} {xs cells:List Value} (hs:a.eval s=v) (hx:a.eval x= .slice (some ad) 2 c)
  (hown:W.ownsRow base e size v n xs) (hl:cells.length=2*size) (hnews:∀(j:Nat) v,cells[j]? =some v→W.cell? (ad.add j)=some v) (h1:cells.all (·.oneCell')=true) (hn:n+2≤9223372036854775807)
  (hb:(n+2)*bytes≤140737488355328) (hbase:base≤W.heap.size)
  (h:∀g cap w',w'.ownsRow base e size (.slice (some ⟨g,0,none⟩) (n+2) cap) (n+2) (xs++cells)→Upd (Own v) W w'→Grew W v (.slice (some ⟨g,0,none⟩) (n+2) cap)→g<w'.heap.size→
   K (a.put o.dst (.slice (some ⟨g,0,none⟩) (n+2) cap)) w'):
  if Region.wanted o (yielded ops a.tmps)=true then Oper.wp P o a W K Q else E:=by
 obtain⟨ht,i,z,hi,hz,hsize,hby,hzs,hsz⟩:=hT;refine step_append_lies W hgd s x t ho base e i z size bytes ht hi hz hsize hby hzs hsz v n xs hs hown ad 2 c cells hx (by omega) hnews (by simpa using h1) (by omega) (by simp only[maxLen];omega) hb hbase W.heap.size rfl ?_;intro g cap w' h2 h3 h4 h5;refine h g cap w' h2 (Upd.of_grown h3) ?_ h5;rcases h4 with h4|h4
 ·exact .inl h4.symm
 ·exact .inr ⟨g,rfl,by omega⟩
end
def Zam (a b c u r:Int):List ByteArray:=[⟨#[116,120,115]⟩,Za a,⟨#[111,114,100,101,114,115]⟩,Za b,⟨#[119,101,105,103,104,116]⟩,Za c,⟨#[117,110,100,111]⟩,Za u,⟨#[114,101,100,111]⟩,Za r]
def ZcS (a b c u r:Int):ByteArray:=
 ⟨#[116,120,115,32]⟩++Za a++⟨#[32,111,114,100,101,114,115,32]⟩++Za b++⟨#[32,119,101,105,103,104,116,32]⟩++Za c++⟨#[32,117,110,100,111,32]⟩++Za u++⟨#[32,114,101,100,111,32]⟩++Za r++⟨#[10]⟩
theorem Zgi (a b c u r:Int):Zah (Zam a b c u r)++⟨#[10]⟩=ZcS a b c u r:=by
 unfold Zah Zam ZcS;simp only[List.map_cons,List.map_nil];rw[Lib.join_cons];unfold Lib.joinTail
 apply ByteArray.ext
 simp
theorem Zjd (a b c u r:Int):(Zah (Zam a b c u r)).size≤150:=by
 have h:=congrArg ByteArray.size (Zgi a b c u r);have n1:=Zb a;have n2:=Zb b;have n3:=Zb c;have n4:=Zb u;have n5:=Zb r;have m1:(⟨#[116,120,115,32]⟩:ByteArray).size=4:=rfl;have m2:(⟨#[32,111,114,100,101,114,115,32]⟩:ByteArray).size=8:=rfl;have m3:(⟨#[32,119,101,105,103,104,116,32]⟩:ByteArray).size=8:=rfl;have m4:(⟨#[32,117,110,100,111,32]⟩:ByteArray).size=6:=rfl;have m5:(⟨#[32,114,101,100,111,32]⟩:ByteArray).size=6:=rfl;have m6:(⟨#[10]⟩:ByteArray).size=1:=rfl;unfold ZcS at h;rw[ByteArray.size_append,ByteArray.size_append,ByteArray.size_append,ByteArray.size_append,ByteArray.size_append,ByteArray.size_append,ByteArray.size_append,ByteArray.size_append,ByteArray.size_append,ByteArray.size_append,ByteArray.size_append]at h;omega
set_option maxRecDepth 100000 in
theorem Zn3 (a b c u r:Int):∀w:World,(Instr.index 66 (.agg #[.int .i64 a,.int .i64 b,.int .i64 c,.int .i64 u,.int .i64 r]) (.int .i64 0)).run Try.prog w= .ok (.int .i64 a) w:=fun _=>by kernel_rfl
set_option maxRecDepth 100000 in
theorem Zn2 (a b c u r:Int):∀w:World,(Instr.index 66 (.agg #[.int .i64 a,.int .i64 b,.int .i64 c,.int .i64 u,.int .i64 r]) (.int .i64 1)).run Try.prog w= .ok (.int .i64 b) w:=fun _=>by kernel_rfl
set_option maxRecDepth 100000 in
theorem Zn1 (a b c u r:Int):∀w:World,(Instr.index 66 (.agg #[.int .i64 a,.int .i64 b,.int .i64 c,.int .i64 u,.int .i64 r]) (.int .i64 2)).run Try.prog w= .ok (.int .i64 c) w:=fun _=>by kernel_rfl
set_option maxRecDepth 100000 in
theorem Zn0 (a b c u r:Int):∀w:World,(Instr.index 66 (.agg #[.int .i64 a,.int .i64 b,.int .i64 c,.int .i64 u,.int .i64 r]) (.int .i64 3)).run Try.prog w= .ok (.int .i64 u) w:=fun _=>by kernel_rfl
set_option maxRecDepth 100000 in
theorem ZnZ (a b c u r:Int):∀w:World,(Instr.index 66 (.agg #[.int .i64 a,.int .i64 b,.int .i64 c,.int .i64 u,.int .i64 r]) (.int .i64 4)).run Try.prog w= .ok (.int .i64 r) w:=fun _=>by kernel_rfl
set_option maxRecDepth 100000 in
set_option maxHeartbeats 4000000 in
theorem Znj {F:Nat→Prop} (w:World) (txs:List HTx) (A:Option Addr) (c:Nat) (B:Option Addr) (m d:Nat) (un re:Int) (H:Recs F w A 3 (txs.map HTx.cells)) (hl:txs.length≤1000) (hm:m≤1000) (ho:∀t∈txs,t.ops.length≤4095) (hu:i64 un) (hr:i64 re):
  Calls Try.prog 17 #[.agg #[.slice A txs.length c,.slice B m d],.int .i64 un,.int .i64 re] w fun e w'=>e= .returned (.string (ZcS txs.length m (ZaO txs) un re))∧Upd No w w':=by
 obtain⟨z,hz⟩:∃z,w.heap.size=z:=⟨_,rfl⟩;obtain⟨wb,hwb⟩:∃wb,w.alloc (.cells #[.slice A txs.length c,.slice B m d] 39)=wb:=⟨_,rfl⟩;have sb:wb.heap.size=z+1:=by rw[←hwb,←hz];simp
 have u1:Upd No w wb:=by rw[←hwb];exact(Upd.refl No w).alloc _
 have bb:Blk wb z 39 [.slice A txs.length c,.slice B m d]:=by rw[←hwb,←hz];exact Blk.new w _ _
 have hw:=Zic ho;have HW:=Qh (fun W (u:Upd No wb W)=>Recs.upd H (u1.trans u) (fun _ _=>id));have HOO:=Qh ho;obtain⟨WG,hWG⟩:∃WG:Int,(ZaO txs:Int)=WG:=⟨_,rfl⟩;have iw:i64 WG:=by unfold i64;omega
 have n1:=Zb (txs.length:Int);have n2:=Zb (m:Int);have n3:=Zb WG;have n4:=Zb un;have n5:=Zb re;have C1:=Qh (fun W=>Zad W (txs.length:Int) (by omega) (by omega));have C2:=Qh (fun W=>Zad W (m:Int) (by omega) (by omega));have C3:=Qh (fun W=>Zad W WG iw.1 iw.2);have C4:=Qh (fun W=>Zad W un hu.1 hu.2);have C5:=Qh (fun W=>Zad W re hr.1 hr.2);have CG:=Qh (fun W (u:Upd No wb W)=>ZnS (c:=c) (B:=B) (m:=m) (d:=d) (HW.out W u) hl HOO.out);rw[hWG]at CG ⊢;have t0:∀W,Upd No wb W→W.cell? ⟨z,0,none⟩=some (.slice A txs.length c):=fun W u=>(bb.upd u id).cell 0
 have t1:∀W,Upd No wb W→W.cell? ⟨z,1,none⟩=some (.slice B m d):=fun W u=>(bb.upd u id).cell 1
 have HR:=Qh (show ZcS txs.length m WG un re=⟨#[116,120,115,32]⟩++Za txs.length++⟨#[32,111,114,100,101,114,115,32]⟩++Za m++⟨#[32,119,101,105,103,104,116,32]⟩++Za WG++⟨#[32,117,110,100,111,32]⟩++Za un++⟨#[32,114,101,100,111,32]⟩++Za re++⟨#[10]⟩ from rfl);have m1:(⟨#[116,120,115,32]⟩:ByteArray).size=4:=rfl;have m2:(⟨#[32,111,114,100,101,114,115,32]⟩:ByteArray).size=8:=rfl;have m3:(⟨#[32,119,101,105,103,104,116,32]⟩:ByteArray).size=8:=rfl;have m4:(⟨#[32,117,110,100,111,32]⟩:ByteArray).size=6:=rfl;have m5:(⟨#[32,114,101,100,111,32]⟩:ByteArray).size=6:=rfl;have m6:(⟨#[10]⟩:ByteArray).size=1:=rfl;obtain⟨S1,hS1⟩:∃S,Za (txs.length:Int)=S:=⟨_,rfl⟩;obtain⟨S2,hS2⟩:∃S,Za (m:Int)=S:=⟨_,rfl⟩;obtain⟨S3,hS3⟩:∃S,Za WG=S:=⟨_,rfl⟩;obtain⟨S4,hS4⟩:∃S,Za un=S:=⟨_,rfl⟩;obtain⟨S5,hS5⟩:∃S,Za re=S:=⟨_,rfl⟩;rw[hS1,hS2,hS3,hS4,hS5]at HR;rw[hS1]at C1 n1;rw[hS2]at C2 n2;rw[hS3]at C3 n3;rw[hS4]at C4 n4;rw[hS5]at C5 n5;have p1:¬9223372036854775807<4+S1.size:=by omega
 have p2:¬9223372036854775807<4+S1.size+8:=by omega
 have p3:¬9223372036854775807<4+S1.size+8+S2.size:=by omega
 have p4:¬9223372036854775807<4+S1.size+8+S2.size+8:=by omega
 have p5:¬9223372036854775807<4+S1.size+8+S2.size+8+S3.size:=by omega
 have p6:¬9223372036854775807<4+S1.size+8+S2.size+8+S3.size+6:=by omega
 have p7:¬9223372036854775807<4+S1.size+8+S2.size+8+S3.size+6+S4.size:=by omega
 have p8:¬9223372036854775807<4+S1.size+8+S2.size+8+S3.size+6+S4.size+6:=by omega
 have p9:¬9223372036854775807<4+S1.size+8+S2.size+8+S3.size+6+S4.size+6+S5.size:=by omega
 have p10:¬9223372036854775807<4+S1.size+8+S2.size+8+S3.size+6+S4.size+6+S5.size+1:=by omega
 have U1:=Qh u1;clear hS1 hS2 hS3 hS4 hS5 hWG hw u1 bb H ho hl hm hu hr iw
 go_enter Try.func17,Try.ntmps17
 go_wp2;refine wp_region_noPanic ?_;refine wp_region_held_drew (S:=(fun w'=>Upd No wb w')) (by kernel_rfl) ?_ (fun hHeld=> ?_)
 ·(first|exact(Upd.refl No _).drew|exact hHeld.trans hu4)
 refine wpK 0 rfl ?_;refine wpK 1 rfl ?_;refine wpK 2 rfl ?_;refine wpK 6 rfl ?_;refine wpK 7 rfl ?_;refine wpK 8 rfl ?_;refine wpK 12 rfl ?_;refine wpK 17 rfl ?_;refine wpK 21 rfl ?_;refine wpR [3] ?_;refine wpC rfl (fun K hK=> ?_) AllReadyH.nil;go_simp
 (first
  |(go_at_call 30;refine(C1.out _).mono ?_;rintro e w4 ⟨rfl,hu4⟩))
 try (go_wp2_with fail)
 refine hK.out _ _ ?_ (fun hHeld=> ?_)
 ·(first|exact(Upd.refl No _).drew|exact hHeld.trans hu4)
 clear hK K
 try simp only[Act.put,sT,sS,sZ]
 refine wpK 4 rfl ?_;refine wpK 5 rfl ?_;refine wpR [9] ?_;refine wpC rfl (fun K hK=> ?_) AllReadyH.nil;go_simp
 (first
  |(go_at_call 30;refine(C2.out _).mono ?_;rintro e w4 ⟨rfl,hu4⟩))
 try (go_wp2_with fail)
 refine hK.out _ _ ?_ (fun hHeld=> ?_)
 ·(first|exact(Upd.refl No _).drew|exact hHeld.trans hu4)
 clear hK K
 try simp only[Act.put,sT,sS,sZ]
 refine wpK 10 rfl ?_;refine wpK 11 rfl ?_;refine wpR [13] ?_;refine wpC rfl (fun K hK=> ?_) AllReadyH.nil;go_simp
 (first
  |(go_at_call 36;refine(CG.out _ hHeld).mono ?_;rintro e w4 ⟨rfl,hu4⟩))
 try (go_wp2_with fail)
 refine hK.out _ _ ?_ (fun hHeld=> ?_)
 ·(first|exact(Upd.refl No _).drew|exact hHeld.trans hu4)
 clear hK K
 try simp only[Act.put,sT,sS,sZ]
 refine wpR [14] ?_;refine wpC rfl (fun K hK=> ?_) AllReadyH.nil;go_simp
 (first
  |(go_at_call 30;refine(C3.out _).mono ?_;rintro e w4 ⟨rfl,hu4⟩))
 try (go_wp2_with fail)
 refine hK.out _ _ ?_ (fun hHeld=> ?_)
 ·(first|exact(Upd.refl No _).drew|exact hHeld.trans hu4)
 clear hK K
 try simp only[Act.put,sT,sS,sZ]
 refine wpK 15 rfl ?_;refine wpK 16 rfl ?_;refine wpR [18] ?_;refine wpC rfl (fun K hK=> ?_) AllReadyH.nil;go_simp
 (first
  |(go_at_call 30;refine(C4.out _).mono ?_;rintro e w4 ⟨rfl,hu4⟩))
 try (go_wp2_with fail)
 refine hK.out _ _ ?_ (fun hHeld=> ?_)
 ·(first|exact(Upd.refl No _).drew|exact hHeld.trans hu4)
 clear hK K
 try simp only[Act.put,sT,sS,sZ]
 refine wpK 19 rfl ?_;refine wpK 20 rfl ?_;refine wpR [22] ?_;refine wpC rfl (fun K hK=> ?_) AllReadyH.nil;go_simp
 (first
  |(go_at_call 30;refine(C5.out _).mono ?_;rintro e w4 ⟨rfl,hu4⟩))
 try (go_wp2_with fail)
 refine hK.out _ _ ?_ (fun hHeld=> ?_)
 ·(first|exact(Upd.refl No _).drew|exact hHeld.trans hu4)
 clear hK K
 try simp only[Act.put,sT,sS,sZ]
 refine wpK 23 rfl ?_;refine wpK 24 rfl ?_;refine wpK 25 rfl ?_;refine wpD (NoPanic.normal ?_);go_wp2
 go_ret
 exact⟨by rw[HR.out];rfl,U1.out.trans hHeld⟩
set_option maxRecDepth 100000 in
set_option maxHeartbeats 8000000 in
theorem Zk4 {F:Nat→Prop} (w:World) (txs:List HTx) (A:Option Addr) (c:Nat) (B:Option Addr) (m d:Nat) (un re:Int) (H:Recs F w A 3 (txs.map HTx.cells)) (hl:txs.length≤1000) (hm:m≤1000) (ho:∀t∈txs,t.ops.length≤4095) (hu:i64 un) (hr:i64 re):
  Calls Try.prog 16 #[.agg #[.slice A txs.length c,.slice B m d],.int .i64 un,.int .i64 re] w fun e w'=>e= .returned (.string (ZcS txs.length m (ZaO txs) un re))∧Upd No w w':=by
 obtain⟨z,hz⟩:∃z,w.heap.size=z:=⟨_,rfl⟩;obtain⟨wb,hwb⟩:∃wb,w.alloc (.cells #[.slice A txs.length c,.slice B m d] 39)=wb:=⟨_,rfl⟩;have sb:wb.heap.size=z+1:=by rw[←hwb,←hz];simp
 have u1:Upd No w wb:=by rw[←hwb];exact(Upd.refl No w).alloc _
 have bb:Blk wb z 39 [.slice A txs.length c,.slice B m d]:=by rw[←hwb,←hz];exact Blk.new w _ _
 have hw:=Zic ho;have HW:=Qh (fun W (u:Upd No wb W)=>Recs.upd H (u1.trans u) (fun _ _=>id));have HOO:=Qh ho;obtain⟨WG,hWG⟩:∃WG:Int,(ZaO txs:Int)=WG:=⟨_,rfl⟩;have iw:i64 WG:=by unfold i64;omega
 have n1:=Zb (txs.length:Int);have n2:=Zb (m:Int);have n3:=Zb WG;have n4:=Zb un;have n5:=Zb re;rw[hWG];obtain⟨wc,hwc⟩:∃wc,wb.alloc (.cells #[.string ⟨#[116,120,115]⟩,.string ⟨#[111,114,100,101,114,115]⟩,.string ⟨#[119,101,105,103,104,116]⟩,.string ⟨#[117,110,100,111]⟩,.string ⟨#[114,101,100,111]⟩] 64)=wc:=⟨_,rfl⟩;have u2:Upd No wb wc:=by rw[←hwc];exact(Upd.refl No wb).alloc _
 have sc:wc.heap.size=z+2:=by rw[←hwc];simp[sb]
 have bn:Blk wc (z+1) 64 [.string ⟨#[116,120,115]⟩,.string ⟨#[111,114,100,101,114,115]⟩,.string ⟨#[119,101,105,103,104,116]⟩,.string ⟨#[117,110,100,111]⟩,.string ⟨#[114,101,100,111]⟩]:=by rw[←hwc,←sb];exact Blk.new wb _ _
 have BN:=Qh bn;have HZC:=Qh sc;have C1:=Qh (fun W=>Zav W (txs.length:Int) (by omega) (by omega));have C2:=Qh (fun W=>Zav W (m:Int) (by omega) (by omega));have C3:=Qh (fun W=>Zav W WG iw.1 iw.2);have C4:=Qh (fun W=>Zav W un hu.1 hu.2);have C5:=Qh (fun W=>Zav W re hr.1 hr.2);have CG:=Qh (fun W (u:Upd No wc W)=>ZnY (c:=c) (B:=B) (m:=m) (d:=d) (HW.out W (u2.trans u)) hl HOO.out);rw[hWG]at CG;have t0:∀W,Upd No wc W→W.cell? ⟨z,0,none⟩=some (.slice A txs.length c):=fun W u=>((bb.upd u2 id).upd u id).cell 0
 have t1:∀W,Upd No wc W→W.cell? ⟨z,1,none⟩=some (.slice B m d):=fun W u=>((bb.upd u2 id).upd u id).cell 1
 have U2:=Qh (u1.trans u2);clear hWG hw u1 u2 bb bn H ho hl hm hu hr iw n1 n2 n3 n4 n5
 go_enter Try.func16,Try.ntmps16
 go_wp2;clear hwc hwb sb sc;refine wp_region_noPanic ?_;refine wp_region_held_drew (S:=(fun W'=>Upd No wc W')) (by kernel_rfl) ?_ (fun hHeld=> ?_)
 ·(first|exact(Upd.refl _ _).drew|exact hHeld.trans hu4)
 refine wpK 0 rfl ?_;refine wpK 1 rfl ?_;refine wpK 2 rfl ?_;refine wpK 3 rfl ?_;refine wpK 4 rfl ?_;refine wpK 5 rfl ?_;refine wpK 6 rfl ?_;refine wpK 8 rfl ?_;refine wpK 9 rfl ?_;refine wpK 11 rfl ?_;refine wpR [7] ?_;refine wpC rfl (fun K hK=> ?_) AllReadyH.nil;go_simp
 (first
  |(go_at_call 34;refine(CG.out _ hHeld).mono ?_;rintro e w4 ⟨rfl,hu4⟩))
 try (go_wp2_with fail)
 refine hK.out _ _ ?_ (fun hHeld=> ?_)
 ·(first|exact(Upd.refl _ _).drew|exact hHeld.trans hu4)
 clear hK K
 try simp only[Act.put,sT,sS,sZ]
 refine wpK 10 rfl ?_;refine wpD (NoPanic.normal ?_);have HUS:=Qh hHeld;clear hHeld;go_wp2
 go_loopg [8,23] 5 (fun gk s i wr=>∃(k:Nat) (ki:Int) (A5:Option Addr) (c5:Nat) (xs:List ByteArray),k+gk=5∧i= .int .i64 ki∧Hid (ki=(k:Int))∧s= .slice A5 xs.length c5∧Hid (xs=(Zam txs.length m WG un re).take (2*k))∧xs.length≤2*k∧
  Hid (wr.ownsRow wc.heap.size 9 1 (.slice A5 xs.length c5) xs.length (Z6 xs))∧Hid (Upd No wc wr))
 case atStart=>exact⟨0,0,none,0,[],by omega,rfl,Qh rfl,rfl,Qh rfl,by simp,Qh (World.ownsRow_nil _ _ _ _),HUS⟩
 case round=>
  obtain⟨k,ki,A5,c5,xs,hgk,rfl,hki,rfl,hxs,hxl,hown,hu⟩:=hrel;have HOW:=Qh hown.out;have HUU:=Qh hu.out;have HOL:=Qh (fun i (e:Own (.slice A5 xs.length c5) i)=>(HOW.out.lt i e).1);clear hown hu t0 t1;rcases(show k=0∨k=1∨k=2∨k=3∨k=4∨k=5 by omega)with rfl|rfl|rfl|rfl|rfl|rfl
  ·obtain rfl:ki=0:=by have:=hki.out;omega
   clear hki;have HS:=Qh (show(Zam txs.length m WG un re).take (2*(0+1))=(Zam txs.length m WG un re).take (2*0)++[⟨#[116,120,115]⟩,Za txs.length] from rfl);have nk:∀W,Upd (fun i=>wc.heap.size≤i) wr W→W.cell? ⟨z+1,0,none⟩=some (.string ⟨#[116,120,115]⟩):=fun W u=>((BN.out.upd HUU.out id).upd u (by have:=HZC.out;omega)).cell 0
   have CV:=Qh C1.out;have xk:=Zn3 txs.length m WG un re;go_wp2;refine wp_region_noPanic ?_;refine wp_region_held_drew (S:=(fun W'=>Upd (fun i=>wc.heap.size≤i) wr W')) (by kernel_rfl) ?_ (fun hHeld=> ?_)
   ·(first|exact(Upd.refl _ _).drew|exact hq|exact hHeld.trans (hu4.mono (fun _ _ e=>e.elim))|exact hHeld.alloc _)
   refine wpK 0 rfl ?_;refine wpK 1 rfl ?_;refine wpK 2 rfl ?_;refine wpK 3 rfl ?_;refine wpK 4 rfl ?_;refine wpR [5] ?_;refine wpC rfl (fun K hK=> ?_) AllReadyH.nil;go_simp
   (first
  |(go_at_call 35;refine(CV.out _).mono ?_;rintro e w4 ⟨rfl,hu4⟩;have HU4:=Qh ((Upd.refl No wr).drew.trans hu4)))
   try (go_wp2_with fail)
   refine hK.out _ _ ?_ (fun hHeld=> ?_)
   ·(first|exact(Upd.refl _ _).drew|exact hq|exact hHeld.trans (hu4.mono (fun _ _ e=>e.elim))|exact hHeld.alloc _)
   clear hK K
   try simp only[Act.put,sT,sS,sZ]
   refine wpR [6] ?_;refine wpC rfl (fun K hK=> ?_) AllReadyH.nil;go_simp;refine hK.out _ _ ?_ (fun hHeld=> ?_)
   ·(first|exact(Upd.refl _ _).drew|exact hq|exact hHeld.trans (hu4.mono (fun _ _ e=>e.elim))|exact hHeld.alloc _)
   clear hK K
   try simp only[Act.put,sT,sS,sZ]
   refine wpR [7] ?_;refine wpC rfl (fun K hK=> ?_) AllReadyH.nil
   (first
  |(refine Zcm (by rfl) (by rfl) ZbY (base:=wc.heap.size) (v:= .slice A5 xs.length c5) (n:=xs.length) (xs:=Z6 xs) (cells:=[.string ⟨#[116,120,115]⟩,.string (Za txs.length)]) (by rfl) (by rfl) (by exact Zc HOW.out (HU4.out.alloc _) (fun _ _=>id)) rfl (by exact Zbu) (by rfl) (by omega) (by omega) (by have:=(HU4.out.alloc (.cells #[.string ⟨#[116,120,115]⟩,.string (Za txs.length)] 9)).size;have:=HUU.out.size;omega) ?_;intro g6 c6 w6 hown6 hu6 hg6 hlt6;have HO6:=Qh hown6;have hq:Upd (fun i=>wc.heap.size≤i) wr w6:=hHeld.trans (hu6.mono (fun i _ e=>HOL.out i e));clear hown6 hu6 hg6 hlt6))
   refine hK.out _ _ ?_ (fun hHeld=> ?_)
   ·(first|exact(Upd.refl _ _).drew|exact hq|exact hHeld.trans (hu4.mono (fun _ _ e=>e.elim))|exact hHeld.alloc _)
   clear hK K
   try simp only[Act.put,sT,sS,sZ]
   refine wpK 8 rfl ?_;refine wpD (NoPanic.normal ?_);go_wp2
   go_roundg (gk-1)
   case measure=>omega
   case rel=>exact⟨0+1,(((0:Nat)+1:Nat):Int),some ⟨g6,0,none⟩,c6,xs++[⟨#[116,120,115]⟩,Za txs.length],by omega,rfl,Qh rfl,by simp,Qh (by rw[HS.out,hxs.out]),by rw[List.length_append];simp only[List.length_cons,List.length_nil];omega,Qh (by have:=HO6.out;unfold Z6 at*;simpa using this),Qh (HUU.out.then_ hHeld fun i e=> .inr e)⟩
  ·obtain rfl:ki=1:=by have:=hki.out;omega
   clear hki;have HS:=Qh (show(Zam txs.length m WG un re).take (2*(1+1))=(Zam txs.length m WG un re).take (2*1)++[⟨#[111,114,100,101,114,115]⟩,Za m] from rfl);have nk:∀W,Upd (fun i=>wc.heap.size≤i) wr W→W.cell? ⟨z+1,1,none⟩=some (.string ⟨#[111,114,100,101,114,115]⟩):=fun W u=>((BN.out.upd HUU.out id).upd u (by have:=HZC.out;omega)).cell 1
   have CV:=Qh C2.out;have xk:=Zn2 txs.length m WG un re;go_wp2;refine wp_region_noPanic ?_;refine wp_region_held_drew (S:=(fun W'=>Upd (fun i=>wc.heap.size≤i) wr W')) (by kernel_rfl) ?_ (fun hHeld=> ?_)
   ·(first|exact(Upd.refl _ _).drew|exact hq|exact hHeld.trans (hu4.mono (fun _ _ e=>e.elim))|exact hHeld.alloc _)
   refine wpK 0 rfl ?_;refine wpK 1 rfl ?_;refine wpK 2 rfl ?_;refine wpK 3 rfl ?_;refine wpK 4 rfl ?_;refine wpR [5] ?_;refine wpC rfl (fun K hK=> ?_) AllReadyH.nil;go_simp
   (first
  |(go_at_call 35;refine(CV.out _).mono ?_;rintro e w4 ⟨rfl,hu4⟩;have HU4:=Qh ((Upd.refl No wr).drew.trans hu4)))
   try (go_wp2_with fail)
   refine hK.out _ _ ?_ (fun hHeld=> ?_)
   ·(first|exact(Upd.refl _ _).drew|exact hq|exact hHeld.trans (hu4.mono (fun _ _ e=>e.elim))|exact hHeld.alloc _)
   clear hK K
   try simp only[Act.put,sT,sS,sZ]
   refine wpR [6] ?_;refine wpC rfl (fun K hK=> ?_) AllReadyH.nil;go_simp;refine hK.out _ _ ?_ (fun hHeld=> ?_)
   ·(first|exact(Upd.refl _ _).drew|exact hq|exact hHeld.trans (hu4.mono (fun _ _ e=>e.elim))|exact hHeld.alloc _)
   clear hK K
   try simp only[Act.put,sT,sS,sZ]
   refine wpR [7] ?_;refine wpC rfl (fun K hK=> ?_) AllReadyH.nil
   (first
  |(refine Zcm (by rfl) (by rfl) ZbY (base:=wc.heap.size) (v:= .slice A5 xs.length c5) (n:=xs.length) (xs:=Z6 xs) (cells:=[.string ⟨#[111,114,100,101,114,115]⟩,.string (Za m)]) (by rfl) (by rfl) (by exact Zc HOW.out (HU4.out.alloc _) (fun _ _=>id)) rfl (by exact Zbu) (by rfl) (by omega) (by omega) (by have:=(HU4.out.alloc (.cells #[.string ⟨#[111,114,100,101,114,115]⟩,.string (Za m)] 9)).size;have:=HUU.out.size;omega) ?_;intro g6 c6 w6 hown6 hu6 hg6 hlt6;have HO6:=Qh hown6;have hq:Upd (fun i=>wc.heap.size≤i) wr w6:=hHeld.trans (hu6.mono (fun i _ e=>HOL.out i e));clear hown6 hu6 hg6 hlt6))
   refine hK.out _ _ ?_ (fun hHeld=> ?_)
   ·(first|exact(Upd.refl _ _).drew|exact hq|exact hHeld.trans (hu4.mono (fun _ _ e=>e.elim))|exact hHeld.alloc _)
   clear hK K
   try simp only[Act.put,sT,sS,sZ]
   refine wpK 8 rfl ?_;refine wpD (NoPanic.normal ?_);go_wp2
   go_roundg (gk-1)
   case measure=>omega
   case rel=>exact⟨1+1,(((1:Nat)+1:Nat):Int),some ⟨g6,0,none⟩,c6,xs++[⟨#[111,114,100,101,114,115]⟩,Za m],by omega,rfl,Qh rfl,by simp,Qh (by rw[HS.out,hxs.out]),by rw[List.length_append];simp only[List.length_cons,List.length_nil];omega,Qh (by have:=HO6.out;unfold Z6 at*;simpa using this),Qh (HUU.out.then_ hHeld fun i e=> .inr e)⟩
  ·obtain rfl:ki=2:=by have:=hki.out;omega
   clear hki;have HS:=Qh (show(Zam txs.length m WG un re).take (2*(2+1))=(Zam txs.length m WG un re).take (2*2)++[⟨#[119,101,105,103,104,116]⟩,Za WG] from rfl);have nk:∀W,Upd (fun i=>wc.heap.size≤i) wr W→W.cell? ⟨z+1,2,none⟩=some (.string ⟨#[119,101,105,103,104,116]⟩):=fun W u=>((BN.out.upd HUU.out id).upd u (by have:=HZC.out;omega)).cell 2
   have CV:=Qh C3.out;have xk:=Zn1 txs.length m WG un re;go_wp2;refine wp_region_noPanic ?_;refine wp_region_held_drew (S:=(fun W'=>Upd (fun i=>wc.heap.size≤i) wr W')) (by kernel_rfl) ?_ (fun hHeld=> ?_)
   ·(first|exact(Upd.refl _ _).drew|exact hq|exact hHeld.trans (hu4.mono (fun _ _ e=>e.elim))|exact hHeld.alloc _)
   refine wpK 0 rfl ?_;refine wpK 1 rfl ?_;refine wpK 2 rfl ?_;refine wpK 3 rfl ?_;refine wpK 4 rfl ?_;refine wpR [5] ?_;refine wpC rfl (fun K hK=> ?_) AllReadyH.nil;go_simp
   (first
  |(go_at_call 35;refine(CV.out _).mono ?_;rintro e w4 ⟨rfl,hu4⟩;have HU4:=Qh ((Upd.refl No wr).drew.trans hu4)))
   try (go_wp2_with fail)
   refine hK.out _ _ ?_ (fun hHeld=> ?_)
   ·(first|exact(Upd.refl _ _).drew|exact hq|exact hHeld.trans (hu4.mono (fun _ _ e=>e.elim))|exact hHeld.alloc _)
   clear hK K
   try simp only[Act.put,sT,sS,sZ]
   refine wpR [6] ?_;refine wpC rfl (fun K hK=> ?_) AllReadyH.nil;go_simp;refine hK.out _ _ ?_ (fun hHeld=> ?_)
   ·(first|exact(Upd.refl _ _).drew|exact hq|exact hHeld.trans (hu4.mono (fun _ _ e=>e.elim))|exact hHeld.alloc _)
   clear hK K
   try simp only[Act.put,sT,sS,sZ]
   refine wpR [7] ?_;refine wpC rfl (fun K hK=> ?_) AllReadyH.nil
   (first
  |(refine Zcm (by rfl) (by rfl) ZbY (base:=wc.heap.size) (v:= .slice A5 xs.length c5) (n:=xs.length) (xs:=Z6 xs) (cells:=[.string ⟨#[119,101,105,103,104,116]⟩,.string (Za WG)]) (by rfl) (by rfl) (by exact Zc HOW.out (HU4.out.alloc _) (fun _ _=>id)) rfl (by exact Zbu) (by rfl) (by omega) (by omega) (by have:=(HU4.out.alloc (.cells #[.string ⟨#[119,101,105,103,104,116]⟩,.string (Za WG)] 9)).size;have:=HUU.out.size;omega) ?_;intro g6 c6 w6 hown6 hu6 hg6 hlt6;have HO6:=Qh hown6;have hq:Upd (fun i=>wc.heap.size≤i) wr w6:=hHeld.trans (hu6.mono (fun i _ e=>HOL.out i e));clear hown6 hu6 hg6 hlt6))
   refine hK.out _ _ ?_ (fun hHeld=> ?_)
   ·(first|exact(Upd.refl _ _).drew|exact hq|exact hHeld.trans (hu4.mono (fun _ _ e=>e.elim))|exact hHeld.alloc _)
   clear hK K
   try simp only[Act.put,sT,sS,sZ]
   refine wpK 8 rfl ?_;refine wpD (NoPanic.normal ?_);go_wp2
   go_roundg (gk-1)
   case measure=>omega
   case rel=>exact⟨2+1,(((2:Nat)+1:Nat):Int),some ⟨g6,0,none⟩,c6,xs++[⟨#[119,101,105,103,104,116]⟩,Za WG],by omega,rfl,Qh rfl,by simp,Qh (by rw[HS.out,hxs.out]),by rw[List.length_append];simp only[List.length_cons,List.length_nil];omega,Qh (by have:=HO6.out;unfold Z6 at*;simpa using this),Qh (HUU.out.then_ hHeld fun i e=> .inr e)⟩
  ·obtain rfl:ki=3:=by have:=hki.out;omega
   clear hki;have HS:=Qh (show(Zam txs.length m WG un re).take (2*(3+1))=(Zam txs.length m WG un re).take (2*3)++[⟨#[117,110,100,111]⟩,Za un] from rfl);have nk:∀W,Upd (fun i=>wc.heap.size≤i) wr W→W.cell? ⟨z+1,3,none⟩=some (.string ⟨#[117,110,100,111]⟩):=fun W u=>((BN.out.upd HUU.out id).upd u (by have:=HZC.out;omega)).cell 3
   have CV:=Qh C4.out;have xk:=Zn0 txs.length m WG un re;go_wp2;refine wp_region_noPanic ?_;refine wp_region_held_drew (S:=(fun W'=>Upd (fun i=>wc.heap.size≤i) wr W')) (by kernel_rfl) ?_ (fun hHeld=> ?_)
   ·(first|exact(Upd.refl _ _).drew|exact hq|exact hHeld.trans (hu4.mono (fun _ _ e=>e.elim))|exact hHeld.alloc _)
   refine wpK 0 rfl ?_;refine wpK 1 rfl ?_;refine wpK 2 rfl ?_;refine wpK 3 rfl ?_;refine wpK 4 rfl ?_;refine wpR [5] ?_;refine wpC rfl (fun K hK=> ?_) AllReadyH.nil;go_simp
   (first
  |(go_at_call 35;refine(CV.out _).mono ?_;rintro e w4 ⟨rfl,hu4⟩;have HU4:=Qh ((Upd.refl No wr).drew.trans hu4)))
   try (go_wp2_with fail)
   refine hK.out _ _ ?_ (fun hHeld=> ?_)
   ·(first|exact(Upd.refl _ _).drew|exact hq|exact hHeld.trans (hu4.mono (fun _ _ e=>e.elim))|exact hHeld.alloc _)
   clear hK K
   try simp only[Act.put,sT,sS,sZ]
   refine wpR [6] ?_;refine wpC rfl (fun K hK=> ?_) AllReadyH.nil;go_simp;refine hK.out _ _ ?_ (fun hHeld=> ?_)
   ·(first|exact(Upd.refl _ _).drew|exact hq|exact hHeld.trans (hu4.mono (fun _ _ e=>e.elim))|exact hHeld.alloc _)
   clear hK K
   try simp only[Act.put,sT,sS,sZ]
   refine wpR [7] ?_;refine wpC rfl (fun K hK=> ?_) AllReadyH.nil
   (first
  |(refine Zcm (by rfl) (by rfl) ZbY (base:=wc.heap.size) (v:= .slice A5 xs.length c5) (n:=xs.length) (xs:=Z6 xs) (cells:=[.string ⟨#[117,110,100,111]⟩,.string (Za un)]) (by rfl) (by rfl) (by exact Zc HOW.out (HU4.out.alloc _) (fun _ _=>id)) rfl (by exact Zbu) (by rfl) (by omega) (by omega) (by have:=(HU4.out.alloc (.cells #[.string ⟨#[117,110,100,111]⟩,.string (Za un)] 9)).size;have:=HUU.out.size;omega) ?_;intro g6 c6 w6 hown6 hu6 hg6 hlt6;have HO6:=Qh hown6;have hq:Upd (fun i=>wc.heap.size≤i) wr w6:=hHeld.trans (hu6.mono (fun i _ e=>HOL.out i e));clear hown6 hu6 hg6 hlt6))
   refine hK.out _ _ ?_ (fun hHeld=> ?_)
   ·(first|exact(Upd.refl _ _).drew|exact hq|exact hHeld.trans (hu4.mono (fun _ _ e=>e.elim))|exact hHeld.alloc _)
   clear hK K
   try simp only[Act.put,sT,sS,sZ]
   refine wpK 8 rfl ?_;refine wpD (NoPanic.normal ?_);go_wp2
   go_roundg (gk-1)
   case measure=>omega
   case rel=>exact⟨3+1,(((3:Nat)+1:Nat):Int),some ⟨g6,0,none⟩,c6,xs++[⟨#[117,110,100,111]⟩,Za un],by omega,rfl,Qh rfl,by simp,Qh (by rw[HS.out,hxs.out]),by rw[List.length_append];simp only[List.length_cons,List.length_nil];omega,Qh (by have:=HO6.out;unfold Z6 at*;simpa using this),Qh (HUU.out.then_ hHeld fun i e=> .inr e)⟩
  ·obtain rfl:ki=4:=by have:=hki.out;omega
   clear hki;have HS:=Qh (show(Zam txs.length m WG un re).take (2*(4+1))=(Zam txs.length m WG un re).take (2*4)++[⟨#[114,101,100,111]⟩,Za re] from rfl);have nk:∀W,Upd (fun i=>wc.heap.size≤i) wr W→W.cell? ⟨z+1,4,none⟩=some (.string ⟨#[114,101,100,111]⟩):=fun W u=>((BN.out.upd HUU.out id).upd u (by have:=HZC.out;omega)).cell 4
   have CV:=Qh C5.out;have xk:=ZnZ txs.length m WG un re;go_wp2;refine wp_region_noPanic ?_;refine wp_region_held_drew (S:=(fun W'=>Upd (fun i=>wc.heap.size≤i) wr W')) (by kernel_rfl) ?_ (fun hHeld=> ?_)
   ·(first|exact(Upd.refl _ _).drew|exact hq|exact hHeld.trans (hu4.mono (fun _ _ e=>e.elim))|exact hHeld.alloc _)
   refine wpK 0 rfl ?_;refine wpK 1 rfl ?_;refine wpK 2 rfl ?_;refine wpK 3 rfl ?_;refine wpK 4 rfl ?_;refine wpR [5] ?_;refine wpC rfl (fun K hK=> ?_) AllReadyH.nil;go_simp
   (first
  |(go_at_call 35;refine(CV.out _).mono ?_;rintro e w4 ⟨rfl,hu4⟩;have HU4:=Qh ((Upd.refl No wr).drew.trans hu4)))
   try (go_wp2_with fail)
   refine hK.out _ _ ?_ (fun hHeld=> ?_)
   ·(first|exact(Upd.refl _ _).drew|exact hq|exact hHeld.trans (hu4.mono (fun _ _ e=>e.elim))|exact hHeld.alloc _)
   clear hK K
   try simp only[Act.put,sT,sS,sZ]
   refine wpR [6] ?_;refine wpC rfl (fun K hK=> ?_) AllReadyH.nil;go_simp;refine hK.out _ _ ?_ (fun hHeld=> ?_)
   ·(first|exact(Upd.refl _ _).drew|exact hq|exact hHeld.trans (hu4.mono (fun _ _ e=>e.elim))|exact hHeld.alloc _)
   clear hK K
   try simp only[Act.put,sT,sS,sZ]
   refine wpR [7] ?_;refine wpC rfl (fun K hK=> ?_) AllReadyH.nil
   (first
  |(refine Zcm (by rfl) (by rfl) ZbY (base:=wc.heap.size) (v:= .slice A5 xs.length c5) (n:=xs.length) (xs:=Z6 xs) (cells:=[.string ⟨#[114,101,100,111]⟩,.string (Za re)]) (by rfl) (by rfl) (by exact Zc HOW.out (HU4.out.alloc _) (fun _ _=>id)) rfl (by exact Zbu) (by rfl) (by omega) (by omega) (by have:=(HU4.out.alloc (.cells #[.string ⟨#[114,101,100,111]⟩,.string (Za re)] 9)).size;have:=HUU.out.size;omega) ?_;intro g6 c6 w6 hown6 hu6 hg6 hlt6;have HO6:=Qh hown6;have hq:Upd (fun i=>wc.heap.size≤i) wr w6:=hHeld.trans (hu6.mono (fun i _ e=>HOL.out i e));clear hown6 hu6 hg6 hlt6))
   refine hK.out _ _ ?_ (fun hHeld=> ?_)
   ·(first|exact(Upd.refl _ _).drew|exact hq|exact hHeld.trans (hu4.mono (fun _ _ e=>e.elim))|exact hHeld.alloc _)
   clear hK K
   try simp only[Act.put,sT,sS,sZ]
   refine wpK 8 rfl ?_;refine wpD (NoPanic.normal ?_);go_wp2
   go_roundg (gk-1)
   case measure=>omega
   case rel=>exact⟨4+1,(((4:Nat)+1:Nat):Int),some ⟨g6,0,none⟩,c6,xs++[⟨#[114,101,100,111]⟩,Za re],by omega,rfl,Qh rfl,by simp,Qh (by rw[HS.out,hxs.out]),by rw[List.length_append];simp only[List.length_cons,List.length_nil];omega,Qh (by have:=HO6.out;unfold Z6 at*;simpa using this),Qh (HUU.out.then_ hHeld fun i e=> .inr e)⟩
  ·obtain rfl:ki=5:=by have:=hki.out;omega
   have HJ:Zah xs=Zah (Zam txs.length m WG un re):=by rw[hxs.out];rfl
   have hsz:=Zjd txs.length m WG un re;have CJ:=Qh (ZiM wr xs HOW.out (by rw[hxs.out];simp[Zam]) (by omega) (by rw[Zd9,HJ];omega));rw[HJ]at CJ;have HR:=Qh (Zgi txs.length m WG un re);obtain⟨JS,hJS⟩:∃JS,Zah (Zam txs.length m WG un re)=JS:=⟨_,rfl⟩;rw[hJS]at CJ HR hsz;have m1:(⟨#[10]⟩:ByteArray).size=1:=rfl;have p1:¬9223372036854775807<JS.size+1:=by omega
   clear hxs HJ hJS hki
   go_wp2_with fail
   refine(CJ.out).mono ?_;rintro e w5 ⟨rfl,hu5⟩;go_wp2
   go_ret
   exact⟨by rw[←HR.out];rfl,U2.out.trans (HUU.out.trans hu5)⟩
def txS (i:Int) (d:Bool) (l:List HOp):ByteArray:=⟨(ZD i d l).toArray⟩++⟨#[10]⟩
theorem Zgd (i:Int) (d:Bool) (l:List HOp):(⟨(ZD i d l).toArray⟩:ByteArray).size≤23+71*l.length:=by
 have:=ZeL i d l
 show Array.size _≤_
 rwa [List.size_toArray]
set_option maxRecDepth 100000 in
theorem pTx (F:Nat→Prop) (w:World) (i:Int) (d:Bool) (A:Option Addr) (c:Nat) (l:List HOp) (hi:i64 i) (h:HOps F w A l) (hl:l.length≤100000) (hok:∀o∈l,o.ok):
  Calls Try.prog 14 #[.agg #[.int .i64 i,.bool d,.slice A l.length c]] w fun e w'=>e= .returned (.string (txS i d l))∧Upd No w w':=by
 obtain⟨z,hz⟩:∃z,w.heap.size=z:=⟨_,rfl⟩;obtain⟨wb,hwb⟩:∃wb,w.alloc (.cells #[.int .i64 i,.bool d,.slice A l.length c] 35)=wb:=⟨_,rfl⟩;have ub:Upd No w wb:=by rw[←hwb];exact(Upd.refl No w).alloc _
 have bb:Blk wb z 35 [.int .i64 i,.bool d,.slice A l.length c]:=by rw[←hwb,←hz];exact Blk.new w _ _
 have t0:=bb.cell 0;have t1:=bb.cell 1;have t2:=bb.cell 2;simp only[Qz,Qs]at t0 t1 t2;have C:=Qh (Zmu F wb i d A c l hi (HOps.upd h ub (fun _ _=>id)) hl hok);have n1:=Zgd i d l;have HR:=Qh (show txS i d l=⟨(ZD i d l).toArray⟩++⟨#[10]⟩ from rfl);obtain⟨TX,hTX⟩:∃TX:ByteArray,⟨(ZD i d l).toArray⟩=TX:=⟨_,rfl⟩;rw[hTX]at C n1 HR;have m1:(⟨#[10]⟩:ByteArray).size=1:=rfl;have p1:¬9223372036854775807<TX.size+1:=by omega
 have UB:=Qh ub;clear bb ub h hi hok hTX
 go_enter Try.func14,Try.ntmps14
 go_wp2_with fail
 refine(C.out).mono ?_;rintro e w1 ⟨rfl,hu1⟩;go_wp2
 go_ret
 exact⟨by rw[HR.out];rfl,UB.out.trans hu1⟩
end
end Go.Proofs.Ytdbjokfejmgepaa
