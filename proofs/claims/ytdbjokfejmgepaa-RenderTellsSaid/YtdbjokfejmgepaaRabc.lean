/- What is said of a read, and of a witness. -/
import Derived.Test.YtdbjokfejmgepaaRaal
import Derived.Test.YtdbjokfejmgepaaRaaz
namespace Go.Proofs.Ytdbjokfejmgepaa
set_option linter.unusedVariables false
set_option linter.unusedSimpArgs false
section
open Go.RowKit
def ZcT (tx pl vt vk vn:Int):ByteArray:=Zah [Za tx,Za pl,Zl ⟨true,vk,vt,vn⟩]
theorem ZeF (a b c:ByteArray):Zah [a,b,c]=a++(⟨#[32]⟩++b)++(⟨#[32]⟩++c):=by
 rw[show[a,b,c]=[a,b]++[c] from rfl,ZdF (by simp),show[a,b]=[a]++[b] from rfl,ZdF (by simp),ZgD]
theorem Zfk (tx pl vt vk vn:Int):(ZcT tx pl vt vk vn).size≤150:=by
 have n1:=Zb tx;have n2:=Zb pl;have n3:=Za1 ⟨true,vk,vt,vn⟩;have m1:(⟨#[32]⟩:ByteArray).size=1:=rfl;unfold ZcT;rw[ZeF,ByteArray.size_append,ByteArray.size_append,ByteArray.size_append,ByteArray.size_append];omega
theorem Zkq (w:World) (a b c:ByteArray):(w.alloc (.cells #[.string a,.string b,.string c] 9)).ownsRow w.heap.size 9 1 (.slice (some ⟨w.heap.size,0,none⟩) 3 3) 3 (Z6 [a,b,c]):=
 ⟨rfl,.inr ⟨w.heap.size,3,#[.string a,.string b,.string c],rfl,Nat.le_refl _,heap_alloc_new w _,Nat.le_refl _,by unfold maxLen;omega,rfl,rfl⟩⟩
set_option maxRecDepth 100000 in
set_option maxHeartbeats 2000000 in
theorem Zns (w:World) (tx pl vt vk vn:Int) (h1:i64 tx) (h2:i64 pl) (hk:i64 vk∧i64 vt∧i64 vn):Calls Try.prog 28 #[.agg #[.int .i64 tx,.int .i64 pl,.int .i64 vt,.int .i64 vk,.int .i64 vn]] w fun e w'=>e= .returned (.string (ZcT tx pl vt vk vn))∧Upd No w w':=by
 obtain⟨z,hz⟩:∃z,w.heap.size=z:=⟨_,rfl⟩;obtain⟨wb,hwb⟩:∃wb,w.alloc (.cells #[.int .i64 tx,.int .i64 pl,.int .i64 vt,.int .i64 vk,.int .i64 vn] 30)=wb:=⟨_,rfl⟩;have sb:wb.heap.size=z+1:=by rw[←hwb,←hz];simp
 obtain⟨wc,hwc⟩:∃wc,wb.alloc (.cells #[.bool true,.int .i64 vk,.int .i64 vt,.int .i64 vn] 58)=wc:=⟨_,rfl⟩;have u1:Upd No w wb:=by rw[←hwb];exact(Upd.refl No w).alloc _
 have u2:Upd No wb wc:=by rw[←hwc];exact(Upd.refl No wb).alloc _
 have bb:Blk wb z 30 [.int .i64 tx,.int .i64 pl,.int .i64 vt,.int .i64 vk,.int .i64 vn]:=by rw[←hwb,←hz];exact Blk.new w _ _
 have bo:Blk wc (z+1) 58 [.bool true,.int .i64 vk,.int .i64 vt,.int .i64 vn]:=by rw[←hwc,←sb];exact Blk.new wb _ _
 have b2:=bb.cell 2;have b3:=bb.cell 3;have b4:=bb.cell 4;simp only[Qz,Qs]at b2 b3 b4;have t0:∀W,Upd No wc W→W.cell? ⟨z,0,none⟩=some (.int .i64 tx):=fun W u=>((bb.upd u2 id).upd u id).cell 0
 have t1:∀W,Upd No wc W→W.cell? ⟨z,1,none⟩=some (.int .i64 pl):=fun W u=>((bb.upd u2 id).upd u id).cell 1
 have o0:∀W,Upd No wc W→W.cell? ⟨z+1,0,none⟩=some (.bool true):=fun W u=>(bo.upd u id).cell 0
 have o1:∀W,Upd No wc W→W.cell? ⟨z+1,1,none⟩=some (.int .i64 vk):=fun W u=>(bo.upd u id).cell 1
 have o2:∀W,Upd No wc W→W.cell? ⟨z+1,2,none⟩=some (.int .i64 vt):=fun W u=>(bo.upd u id).cell 2
 have o3:∀W,Upd No wc W→W.cell? ⟨z+1,3,none⟩=some (.int .i64 vn):=fun W u=>(bo.upd u id).cell 3
 have CO:=Qh (fun W=>Zhf W ⟨true,vk,vt,vn⟩ hk);unfold HOp.cells at CO;have CT:=Qh (fun W=>Zav W tx h1.1 h1.2);have CP:=Qh (fun W=>Zav W pl h2.1 h2.2);have hln:=Zfk tx pl vt vk vn;have CJ:=Qh (fun W:World=>ZiM (W.alloc (.cells #[.string (Za tx),.string (Za pl),.string (Zl ⟨true,vk,vt,vn⟩)] 9)) [Za tx,Za pl,Zl ⟨true,vk,vt,vn⟩] (Zkq W _ _ _) (by simp) (by simp) (by rw[Zd9];unfold ZcT at hln;omega));have UC:=Qh (u1.trans u2);clear u1 u2 bb bo h1 h2 hk hln
 go_enter Try.func28,Try.ntmps28
 go_wp2;clear b2 b3 b4;refine wp_region_noPanic ?_;refine wp_region_held_drew (S:=(fun w'=>Upd No wc w')) (by kernel_rfl) ?_ (fun hHeld=> ?_)
 ·(first|exact(Upd.refl No _).drew|exact hHeld.trans hu3|exact hHeld.alloc _)
 refine wpK 0 rfl ?_;refine wpK 1 rfl ?_;refine wpK 3 rfl ?_;refine wpK 4 rfl ?_;refine wpK 6 rfl ?_;refine wpR [2] ?_;refine wpC rfl (fun K hK=> ?_) AllReadyH.nil;go_simp
 (first
  |(go_at_call 35;refine(CT.out _).mono ?_;rintro e w3 ⟨rfl,hu3⟩))
 try (go_wp2_with fail)
 refine hK.out _ _ ?_ (fun hHeld=> ?_)
 ·(first|exact(Upd.refl No _).drew|exact hHeld.trans hu3|exact hHeld.alloc _)
 clear hK K
 try simp only[Act.put,sT,sS,sZ]
 refine wpR [5] ?_;refine wpC rfl (fun K hK=> ?_) AllReadyH.nil;go_simp
 (first
  |(go_at_call 35;refine(CP.out _).mono ?_;rintro e w3 ⟨rfl,hu3⟩))
 try (go_wp2_with fail)
 refine hK.out _ _ ?_ (fun hHeld=> ?_)
 ·(first|exact(Upd.refl No _).drew|exact hHeld.trans hu3|exact hHeld.alloc _)
 clear hK K
 try simp only[Act.put,sT,sS,sZ]
 refine wpR [7] ?_;refine wpC rfl (fun K hK=> ?_) AllReadyH.nil;go_simp
 (first
  |(go_at_call 47;refine(CO.out _).mono ?_;rintro e w3 ⟨rfl,hu3⟩))
 try (go_wp2_with fail)
 refine hK.out _ _ ?_ (fun hHeld=> ?_)
 ·(first|exact(Upd.refl No _).drew|exact hHeld.trans hu3|exact hHeld.alloc _)
 clear hK K
 try simp only[Act.put,sT,sS,sZ]
 refine wpR [8] ?_;refine wpC rfl (fun K hK=> ?_) AllReadyH.nil;go_simp;refine hK.out _ _ ?_ (fun hHeld=> ?_)
 ·(first|exact(Upd.refl No _).drew|exact hHeld.trans hu3|exact hHeld.alloc _)
 clear hK K
 try simp only[Act.put,sT,sS,sZ]
 refine wpR [9] ?_;refine wpC rfl (fun K hK=> ?_) AllReadyH.nil;go_simp
 (first
  |(go_at_call 25;refine(CJ.out _).mono ?_;rintro e w3 ⟨rfl,hu3⟩))
 try (go_wp2_with fail)
 refine hK.out _ _ ?_ (fun hHeld=> ?_)
 ·(first|exact(Upd.refl No _).drew|exact hHeld.trans hu3|exact hHeld.alloc _)
 clear hK K
 try simp only[Act.put,sT,sS,sZ]
 refine wpK 10 rfl ?_;refine wpD (NoPanic.normal ?_);go_wp2
 go_ret
 exact⟨rfl,UC.out.trans hHeld⟩
def ZaN (p:Int) (is:Bool) (l:List Edge) (tx pl vt vk vn:Int):ByteArray:=
 Zae p++⟨#[32]⟩++(if is=false then ⟨#[110,111]⟩ else if p=2∨p=3 then ZcT tx pl vt vk vn else ⟨(Zq l l.length).toArray⟩)++⟨#[10]⟩
theorem Zfd (l:List Edge):(⟨(Zq l l.length).toArray⟩:ByteArray).size≤100*l.length:=by
 have:=Zgf l l.length
 show Array.size _≤_
 rwa [List.size_toArray]
set_option maxRecDepth 100000 in
set_option maxHeartbeats 2000000 in
theorem ZiE {F:Nat→Prop} (w:World) (p:Int) (is:Bool) (q:Int) (A:Option Addr) (c:Nat) (l:List Edge) (tx pl vt vk vn:Int) (H:Walk F w A l) (hl:l.length≤1000000) (hok:∀e∈l,e.ok) (h1:i64 tx) (h2:i64 pl) (hk:i64 vk∧i64 vt∧i64 vn):
  Calls Try.prog 12 #[.int .i64 p,.agg #[.int .i64 q,.slice A l.length c,.int .i64 tx,.int .i64 pl,.int .i64 vt,.int .i64 vk,.int .i64 vn],.bool is] w fun e w'=>e= .returned (.string (ZaN p is l tx pl vt vk vn))∧Upd No w w':=by
 obtain⟨z,hz⟩:∃z,w.heap.size=z:=⟨_,rfl⟩;obtain⟨wb,hwb⟩:∃wb,w.alloc (.cells #[.int .i64 q,.slice A l.length c,.int .i64 tx,.int .i64 pl,.int .i64 vt,.int .i64 vk,.int .i64 vn] 32)=wb:=⟨_,rfl⟩;have sb:wb.heap.size=z+1:=by rw[←hwb,←hz];simp
 have u1:Upd No w wb:=by rw[←hwb];exact(Upd.refl No w).alloc _
 have bb:Blk wb z 32 [.int .i64 q,.slice A l.length c,.int .i64 tx,.int .i64 pl,.int .i64 vt,.int .i64 vk,.int .i64 vn]:=by rw[←hwb,←hz];exact Blk.new w _ _
 have t1:∀W,Upd No wb W→W.cell? ⟨z,1,none⟩=some (.slice A l.length c):=fun W u=>(bb.upd u id).cell 1
 have t2:∀W,Upd No wb W→W.cell? ⟨z,2,none⟩=some (.int .i64 tx):=fun W u=>(bb.upd u id).cell 2
 have t3:∀W,Upd No wb W→W.cell? ⟨z,3,none⟩=some (.int .i64 pl):=fun W u=>(bb.upd u id).cell 3
 have t4:∀W,Upd No wb W→W.cell? ⟨z,4,none⟩=some (.int .i64 vt):=fun W u=>(bb.upd u id).cell 4
 have t5:∀W,Upd No wb W→W.cell? ⟨z,5,none⟩=some (.int .i64 vk):=fun W u=>(bb.upd u id).cell 5
 have t6:∀W,Upd No wb W→W.cell? ⟨z,6,none⟩=some (.int .i64 vn):=fun W u=>(bb.upd u id).cell 6
 have hbz:Upd No wb wb:=Upd.refl _ _;have HW:=Qh (fun W (u:Upd No wb W)=>H.upd (u1.trans u) (fun _ _=>id));have HOK:=Qh hok;have U1:=Qh u1;have n1:=ZbR p;obtain⟨NM,hNM⟩:∃NM,Zae p=NM:=⟨_,rfl⟩;rw[hNM]at n1;have m1:(⟨#[32]⟩:ByteArray).size=1:=rfl;have m2:(⟨#[110,111]⟩:ByteArray).size=2:=rfl;have m3:(⟨#[10]⟩:ByteArray).size=1:=rfl;have m4:(⟨#[110,111,10]⟩:ByteArray).size=3:=rfl;have p1:¬9223372036854775807<NM.size+1:=by omega
 have p2:¬9223372036854775807<NM.size+1+2:=by omega
 have p3:¬9223372036854775807<NM.size+1+2+1:=by omega
 have p4:¬9223372036854775807<NM.size+1+3:=by omega
 have HNM:=Qh hNM;clear u1 bb H hok;have CN:=Qh (Zk6 wb p);rw[hNM]at CN
 cases is
 ·have HR:=Qh (show ZaN p false l tx pl vt vk vn=NM++⟨#[32]⟩++⟨#[110,111]⟩++⟨#[10]⟩ by unfold ZaN;rw[hNM,if_pos rfl]);clear hNM h1 h2 hk
  go_enter Try.func12,Try.ntmps12
  go_wp2_with fail
  refine(CN.out).mono ?_;rintro e w3 ⟨rfl,rfl⟩;go_wp2
  go_ret
  exact⟨by rw[HR.out];rfl,U1.out⟩
 by_cases hp:p=2∨p=3
 ·have HR:=Qh (show ZaN p true l tx pl vt vk vn=NM++⟨#[32]⟩++ZcT tx pl vt vk vn++⟨#[10]⟩ by unfold ZaN;rw[hNM,if_neg (by simp),if_pos hp]);have n2:=Zfk tx pl vt vk vn;have CR:=Qh (Zns wb tx pl vt vk vn h1 h2 hk);obtain⟨RS,hRS⟩:∃RS,ZcT tx pl vt vk vn=RS:=⟨_,rfl⟩;rw[hRS]at CR HR n2;have p5:¬9223372036854775807<NM.size+1+RS.size:=by omega
  have p6:¬9223372036854775807<NM.size+1+RS.size+1:=by omega
  clear hNM h1 h2 hk hRS;rcases hp with rfl|rfl
  ·go_enter Try.func12,Try.ntmps12
   go_wp2_with fail
   refine(CN.out).mono ?_;rintro e w3 ⟨rfl,rfl⟩
   go_wp2_with fail
   refine(CR.out).mono ?_;rintro e w4 ⟨rfl,hu4⟩;go_wp2
   go_ret
   exact⟨by rw[HR.out];rfl,U1.out.trans hu4⟩
  ·go_enter Try.func12,Try.ntmps12
   go_wp2_with fail
   refine(CN.out).mono ?_;rintro e w3 ⟨rfl,rfl⟩
   go_wp2_with fail
   refine(CR.out).mono ?_;rintro e w4 ⟨rfl,hu4⟩;go_wp2
   go_ret
   exact⟨by rw[HR.out];rfl,U1.out.trans hu4⟩
 ·have HR:=Qh (show ZaN p true l tx pl vt vk vn=NM++⟨#[32]⟩++⟨(Zq l l.length).toArray⟩++⟨#[10]⟩ by unfold ZaN;rw[hNM,if_neg (by simp),if_neg hp]);have n2:=Zfd l;have CR:=Qh (Znr F wb A c l (HW.out _ hbz) (by omega) HOK.out);obtain⟨RS,hRS⟩:∃RS:ByteArray,⟨(Zq l l.length).toArray⟩=RS:=⟨_,rfl⟩;rw[hRS]at CR HR n2;have p5:¬9223372036854775807<NM.size+1+RS.size:=by omega
  have p6:¬9223372036854775807<NM.size+1+RS.size+1:=by omega
  have d2:(p==2)=false:=by simp;omega
  have d3:(p==3)=false:=by simp;omega
  clear hNM h1 h2 hk hRS hp
  go_enter Try.func12,Try.ntmps12
  go_wp2_with fail
  refine(CN.out).mono ?_;rintro e w3 ⟨rfl,rfl⟩
  go_wp2_with fail
  refine(CR.out).mono ?_;rintro e w4 ⟨rfl,hu4⟩;go_wp2
  go_ret
  exact⟨by rw[HR.out];rfl,U1.out.trans hu4⟩
end
/- What is said of a witness:the document's. -/
section
open Go.RowKit
set_option maxRecDepth 100000 in
set_option maxHeartbeats 4000000 in
theorem ZnR {F:Nat→Prop} (w:World) (p:Int) (is:Bool) (q:Int) (A:Option Addr) (c:Nat) (l:List Edge) (tx pl vt vk vn:Int) (H:Walk F w A l) (hl:l.length≤1000000) (hok:∀e∈l,e.ok) (h1:i64 tx) (h2:i64 pl) (hk:i64 vk∧i64 vt∧i64 vn):
  Calls Try.prog 13 #[.int .i64 p,.agg #[.int .i64 q,.slice A l.length c,.int .i64 tx,.int .i64 pl,.int .i64 vt,.int .i64 vk,.int .i64 vn],.bool is] w fun e w'=>e= .returned (.string (ZaN p is l tx pl vt vk vn))∧Upd No w w':=by
 obtain⟨z,hz⟩:∃z,w.heap.size=z:=⟨_,rfl⟩;obtain⟨wb,hwb⟩:∃wb,w.alloc (.cells #[.int .i64 q,.slice A l.length c,.int .i64 tx,.int .i64 pl,.int .i64 vt,.int .i64 vk,.int .i64 vn] 32)=wb:=⟨_,rfl⟩;have sb:wb.heap.size=z+1:=by rw[←hwb,←hz];simp
 have u1:Upd No w wb:=by rw[←hwb];exact(Upd.refl No w).alloc _
 have bb:Blk wb z 32 [.int .i64 q,.slice A l.length c,.int .i64 tx,.int .i64 pl,.int .i64 vt,.int .i64 vk,.int .i64 vn]:=by rw[←hwb,←hz];exact Blk.new w _ _
 have t1:∀W,Upd No wb W→W.cell? ⟨z,1,none⟩=some (.slice A l.length c):=fun W u=>(bb.upd u id).cell 1
 have t2:∀W,Upd No wb W→W.cell? ⟨z,2,none⟩=some (.int .i64 tx):=fun W u=>(bb.upd u id).cell 2
 have t3:∀W,Upd No wb W→W.cell? ⟨z,3,none⟩=some (.int .i64 pl):=fun W u=>(bb.upd u id).cell 3
 have t4:∀W,Upd No wb W→W.cell? ⟨z,4,none⟩=some (.int .i64 vt):=fun W u=>(bb.upd u id).cell 4
 have t5:∀W,Upd No wb W→W.cell? ⟨z,5,none⟩=some (.int .i64 vk):=fun W u=>(bb.upd u id).cell 5
 have t6:∀W,Upd No wb W→W.cell? ⟨z,6,none⟩=some (.int .i64 vn):=fun W u=>(bb.upd u id).cell 6
 have hbz:Upd No wb wb:=Upd.refl _ _;have HW:=Qh (fun W (u:Upd No wb W)=>H.upd (u1.trans u) (fun _ _=>id));have HOK:=Qh hok;have U1:=Qh u1;have n1:=ZbR p;obtain⟨NM,hNM⟩:∃NM,Zae p=NM:=⟨_,rfl⟩;rw[hNM]at n1;have m1:(⟨#[32]⟩:ByteArray).size=1:=rfl;have m2:(⟨#[110,111]⟩:ByteArray).size=2:=rfl;have m3:(⟨#[10]⟩:ByteArray).size=1:=rfl;have m4:(⟨#[110,111,10]⟩:ByteArray).size=3:=rfl;have p1:¬9223372036854775807<NM.size+1:=by omega
 have p2:¬9223372036854775807<NM.size+1+2:=by omega
 have p3:¬9223372036854775807<NM.size+1+2+1:=by omega
 have p4:¬9223372036854775807<NM.size+1+3:=by omega
 have HNM:=Qh hNM;clear u1 bb H hok;have CN:=Qh (Zil wb p);rw[hNM]at CN
 cases is
 ·have HR:=Qh (show ZaN p false l tx pl vt vk vn=NM++⟨#[32]⟩++⟨#[110,111,10]⟩ by unfold ZaN;rw[hNM,if_pos rfl,ZdJ];rfl);clear hNM h1 h2 hk
  go_enter Try.func13,Try.ntmps13
  go_wp2_with fail
  refine(CN.out).mono ?_;rintro e w3 ⟨rfl,hu3⟩;go_wp2
  go_ret
  exact⟨by rw[HR.out];rfl,U1.out.trans hu3⟩
 by_cases hp:p=2∨p=3
 ·have HR:=Qh (show ZaN p true l tx pl vt vk vn=NM++⟨#[32]⟩++Za tx++⟨#[32]⟩++Za pl++⟨#[32]⟩++Zl ⟨true,vk,vt,vn⟩++⟨#[10]⟩ by unfold ZaN ZcT;rw[hNM,if_neg (by simp),if_pos hp,ZeF];apply ByteArray.ext;simp);have CO:=Qh (fun W=>Zg7 W ⟨true,vk,vt,vn⟩ hk);unfold HOp.cells at CO;have CT:=Qh (fun W=>Zad W tx h1.1 h1.2);have CP:=Qh (fun W=>Zad W pl h2.1 h2.2);have k1:=Zb tx;have k2:=Zb pl;have k3:=Za1 ⟨true,vk,vt,vn⟩;obtain⟨ST,hST⟩:∃ST,Za tx=ST:=⟨_,rfl⟩;obtain⟨SP,hSP⟩:∃SP,Za pl=SP:=⟨_,rfl⟩;obtain⟨SO,hSO⟩:∃SO,Zl ⟨true,vk,vt,vn⟩=SO:=⟨_,rfl⟩;rw[hST]at HR CT k1;rw[hSP]at HR CP k2;rw[hSO]at HR CO k3;have q1:¬9223372036854775807<NM.size+1+ST.size:=by omega
  have q2:¬9223372036854775807<NM.size+1+ST.size+1:=by omega
  have q3:¬9223372036854775807<NM.size+1+ST.size+1+SP.size:=by omega
  have q4:¬9223372036854775807<NM.size+1+ST.size+1+SP.size+1:=by omega
  have q5:¬9223372036854775807<NM.size+1+ST.size+1+SP.size+1+SO.size:=by omega
  have q6:¬9223372036854775807<NM.size+1+ST.size+1+SP.size+1+SO.size+1:=by omega
  clear hNM h1 h2 hk hST hSP hSO;rcases hp with rfl|rfl
  ·go_enter Try.func13,Try.ntmps13
   go_wp2_with fail
   refine(CN.out).mono ?_;rintro e w3 ⟨rfl,hu3⟩;obtain⟨y,hy⟩:∃y,w3.heap.size=y:=⟨_,rfl⟩;obtain⟨wc,hwc⟩:∃wc,w3.alloc (.cells #[.bool true,.int .i64 vk,.int .i64 vt,.int .i64 vn] 58)=wc:=⟨_,rfl⟩;have uc:Upd No wb wc:=by rw[←hwc];exact hu3.alloc _
   have bo:Blk wc y 58 [.bool true,.int .i64 vk,.int .i64 vt,.int .i64 vn]:=by rw[←hwc,←hy];exact Blk.new w3 _ _
   have UC:=Qh uc;have s2:∀W,Upd No wc W→W.cell? ⟨z,2,none⟩=some (.int .i64 tx):=fun W u=>t2 W (UC.out.trans u)
   have s3:∀W,Upd No wc W→W.cell? ⟨z,3,none⟩=some (.int .i64 pl):=fun W u=>t3 W (UC.out.trans u)
   have o0:∀W,Upd No wc W→W.cell? ⟨y,0,none⟩=some (.bool true):=fun W u=>(bo.upd u id).cell 0
   have o1:∀W,Upd No wc W→W.cell? ⟨y,1,none⟩=some (.int .i64 vk):=fun W u=>(bo.upd u id).cell 1
   have o2:∀W,Upd No wc W→W.cell? ⟨y,2,none⟩=some (.int .i64 vt):=fun W u=>(bo.upd u id).cell 2
   have o3:∀W,Upd No wc W→W.cell? ⟨y,3,none⟩=some (.int .i64 vn):=fun W u=>(bo.upd u id).cell 3
   clear uc bo;go_wp2;clear hwc hy t1 t2 t3 t4 t5 t6 hbz;refine wp_region_noPanic ?_;refine wp_region_held_drew (S:=(fun w'=>Upd No wc w')) (by kernel_rfl) ?_ (fun hHeld=> ?_)
   ·(first|exact(Upd.refl No _).drew|exact hHeld.trans hu4)
   refine wpK 0 rfl ?_;refine wpK 1 rfl ?_;refine wpK 2 rfl ?_;refine wpK 3 rfl ?_;refine wpK 7 rfl ?_;refine wpK 8 rfl ?_;refine wpK 9 rfl ?_;refine wpK 13 rfl ?_;refine wpR [4] ?_;refine wpC rfl (fun K hK=> ?_) AllReadyH.nil;go_simp
   (first
  |(go_at_call 30;refine(CT.out _).mono ?_;rintro e w4 ⟨rfl,hu4⟩))
   try (go_wp2_with fail)
   refine hK.out _ _ ?_ (fun hHeld=> ?_)
   ·(first|exact(Upd.refl No _).drew|exact hHeld.trans hu4)
   clear hK K
   try simp only[Act.put,sT,sS,sZ]
   refine wpK 5 rfl ?_;refine wpK 6 rfl ?_;refine wpR [10] ?_;refine wpC rfl (fun K hK=> ?_) AllReadyH.nil;go_simp
   (first
  |(go_at_call 30;refine(CP.out _).mono ?_;rintro e w4 ⟨rfl,hu4⟩))
   try (go_wp2_with fail)
   refine hK.out _ _ ?_ (fun hHeld=> ?_)
   ·(first|exact(Upd.refl No _).drew|exact hHeld.trans hu4)
   clear hK K
   try simp only[Act.put,sT,sS,sZ]
   refine wpK 11 rfl ?_;refine wpK 12 rfl ?_;refine wpR [14] ?_;refine wpC rfl (fun K hK=> ?_) AllReadyH.nil;go_simp
   (first
  |(go_at_call 31;refine(CO.out _).mono ?_;rintro e w4 ⟨rfl,hu4⟩))
   try (go_wp2_with fail)
   refine hK.out _ _ ?_ (fun hHeld=> ?_)
   ·(first|exact(Upd.refl No _).drew|exact hHeld.trans hu4)
   clear hK K
   try simp only[Act.put,sT,sS,sZ]
   refine wpK 15 rfl ?_;refine wpK 16 rfl ?_;refine wpK 17 rfl ?_;refine wpD (NoPanic.normal ?_);go_wp2
   go_ret
   exact⟨by rw[HR.out];rfl,U1.out.trans (UC.out.trans hHeld)⟩
  ·go_enter Try.func13,Try.ntmps13
   go_wp2_with fail
   refine(CN.out).mono ?_;rintro e w3 ⟨rfl,hu3⟩;obtain⟨y,hy⟩:∃y,w3.heap.size=y:=⟨_,rfl⟩;obtain⟨wc,hwc⟩:∃wc,w3.alloc (.cells #[.bool true,.int .i64 vk,.int .i64 vt,.int .i64 vn] 58)=wc:=⟨_,rfl⟩;have uc:Upd No wb wc:=by rw[←hwc];exact hu3.alloc _
   have bo:Blk wc y 58 [.bool true,.int .i64 vk,.int .i64 vt,.int .i64 vn]:=by rw[←hwc,←hy];exact Blk.new w3 _ _
   have UC:=Qh uc;have s2:∀W,Upd No wc W→W.cell? ⟨z,2,none⟩=some (.int .i64 tx):=fun W u=>t2 W (UC.out.trans u)
   have s3:∀W,Upd No wc W→W.cell? ⟨z,3,none⟩=some (.int .i64 pl):=fun W u=>t3 W (UC.out.trans u)
   have o0:∀W,Upd No wc W→W.cell? ⟨y,0,none⟩=some (.bool true):=fun W u=>(bo.upd u id).cell 0
   have o1:∀W,Upd No wc W→W.cell? ⟨y,1,none⟩=some (.int .i64 vk):=fun W u=>(bo.upd u id).cell 1
   have o2:∀W,Upd No wc W→W.cell? ⟨y,2,none⟩=some (.int .i64 vt):=fun W u=>(bo.upd u id).cell 2
   have o3:∀W,Upd No wc W→W.cell? ⟨y,3,none⟩=some (.int .i64 vn):=fun W u=>(bo.upd u id).cell 3
   clear uc bo;go_wp2;clear hwc hy t1 t2 t3 t4 t5 t6 hbz;refine wp_region_noPanic ?_;refine wp_region_held_drew (S:=(fun w'=>Upd No wc w')) (by kernel_rfl) ?_ (fun hHeld=> ?_)
   ·(first|exact(Upd.refl No _).drew|exact hHeld.trans hu4)
   refine wpK 0 rfl ?_;refine wpK 1 rfl ?_;refine wpK 2 rfl ?_;refine wpK 3 rfl ?_;refine wpK 7 rfl ?_;refine wpK 8 rfl ?_;refine wpK 9 rfl ?_;refine wpK 13 rfl ?_;refine wpR [4] ?_;refine wpC rfl (fun K hK=> ?_) AllReadyH.nil;go_simp
   (first
  |(go_at_call 30;refine(CT.out _).mono ?_;rintro e w4 ⟨rfl,hu4⟩))
   try (go_wp2_with fail)
   refine hK.out _ _ ?_ (fun hHeld=> ?_)
   ·(first|exact(Upd.refl No _).drew|exact hHeld.trans hu4)
   clear hK K
   try simp only[Act.put,sT,sS,sZ]
   refine wpK 5 rfl ?_;refine wpK 6 rfl ?_;refine wpR [10] ?_;refine wpC rfl (fun K hK=> ?_) AllReadyH.nil;go_simp
   (first
  |(go_at_call 30;refine(CP.out _).mono ?_;rintro e w4 ⟨rfl,hu4⟩))
   try (go_wp2_with fail)
   refine hK.out _ _ ?_ (fun hHeld=> ?_)
   ·(first|exact(Upd.refl No _).drew|exact hHeld.trans hu4)
   clear hK K
   try simp only[Act.put,sT,sS,sZ]
   refine wpK 11 rfl ?_;refine wpK 12 rfl ?_;refine wpR [14] ?_;refine wpC rfl (fun K hK=> ?_) AllReadyH.nil;go_simp
   (first
  |(go_at_call 31;refine(CO.out _).mono ?_;rintro e w4 ⟨rfl,hu4⟩))
   try (go_wp2_with fail)
   refine hK.out _ _ ?_ (fun hHeld=> ?_)
   ·(first|exact(Upd.refl No _).drew|exact hHeld.trans hu4)
   clear hK K
   try simp only[Act.put,sT,sS,sZ]
   refine wpK 15 rfl ?_;refine wpK 16 rfl ?_;refine wpK 17 rfl ?_;refine wpD (NoPanic.normal ?_);go_wp2
   go_ret
   exact⟨by rw[HR.out];rfl,U1.out.trans (UC.out.trans hHeld)⟩
 ·have HR:=Qh (show ZaN p true l tx pl vt vk vn=NM++⟨#[32]⟩++⟨(Zq l l.length).toArray⟩++⟨#[10]⟩ by unfold ZaN;rw[hNM,if_neg (by simp),if_neg hp]);have n2:=Zfd l;have CR:=Qh (fun W (u:Upd No wb W)=>Zm4 F W A c l (HW.out _ u) (by omega) HOK.out);obtain⟨RS,hRS⟩:∃RS:ByteArray,⟨(Zq l l.length).toArray⟩=RS:=⟨_,rfl⟩;rw[hRS]at CR HR n2;have p5:¬9223372036854775807<NM.size+1+RS.size:=by omega
  have p6:¬9223372036854775807<NM.size+1+RS.size+1:=by omega
  have d2:(p==2)=false:=by simp;omega
  have d3:(p==3)=false:=by simp;omega
  clear hNM h1 h2 hk hRS hp
  go_enter Try.func13,Try.ntmps13
  go_wp2_with fail
  refine(CN.out).mono ?_;rintro e w3 ⟨rfl,hu3⟩
  go_wp2_with fail
  refine(CR.out _ hu3).mono ?_;rintro e w4 ⟨rfl,hu4⟩;go_wp2
  go_ret
  exact⟨by rw[HR.out];rfl,U1.out.trans (hu3.trans hu4)⟩
end
end Go.Proofs.Ytdbjokfejmgepaa
