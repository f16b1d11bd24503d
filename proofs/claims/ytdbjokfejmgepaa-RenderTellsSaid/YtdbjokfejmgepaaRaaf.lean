/- The words of errors. -/
import Derived.Test.YtdbjokfejmgepaaProg
import Derived.Deep.RegionHeld3
import Derived.Deep.AppendLies
import Derived.Test.YtdbjokfejmgepaaRaac
namespace Go.Proofs.Ytdbjokfejmgepaa
set_option linter.unusedVariables false
set_option linter.unusedSimpArgs false
section
open Go.RowKit
def wordsE:List ByteArray:=[⟨#[111,107]⟩,⟨#[114,97,110,103,101]⟩,⟨#[102,117,108,108]⟩,⟨#[110,111,110,101]⟩,⟨#[116,104,101,114,101]⟩,⟨#[102,111,114,109]⟩,⟨#[114,101,97,100]⟩,⟨#[117,115,101,100]⟩,⟨#[111,114,100,101,114]⟩,⟨#[108,111,110,103]⟩,⟨#[110,117,109,98,101,114]⟩,⟨#[119,111,114,100]⟩,⟨#[115,104,111,114,116]⟩,⟨#[109,111,114,101]⟩,⟨#[98,108,97,110,107]⟩,⟨#[101,109,112,116,121]⟩,⟨#[99,121,99,108,101]⟩,⟨#[115,116,97,116,101]⟩]
def wordsW:List Value:=wordsE.map Value.string
def ZA (e:Int):ByteArray:=if 0≤e∧e≤17 then wordsE.getD e.toNat ⟨#[]⟩ else ⟨#[120]⟩
theorem Zf9 (e:Int) (h0:¬e<0) (h1:e<18):wordsW[e.toNat]? =some (Value.string (ZA e)):=by
 have h:e=0∨e=1∨e=2∨e=3∨e=4∨e=5∨e=6∨e=7∨e=8∨e=9∨e=10∨e=11∨e=12∨e=13∨e=14∨e=15∨e=16∨e=17:=by omega
 rcases h with h|h|h|h|h|h|h|h|h|h|h|h|h|h|h|h|h|h<;>subst h<;>rfl
theorem Zfa (e:Int):(ZA e).size≤6:=by
 unfold ZA
 split
 ·rename_i h
  have:∀k:Fin 18,(wordsE.getD k.val ⟨#[]⟩).size≤6:=by decide+kernel
  exact this ⟨e.toNat,by omega⟩
 ·decide
set_option maxRecDepth 100000 in
set_option maxHeartbeats 4000000 in
theorem Zfn (w:World) (e:Int):Calls Try.prog 6 #[.int .i64 e] w fun x w'=>x= .returned (.string (ZA e))∧Upd No w w':=by
 obtain⟨z,hz⟩:∃z,w.heap.size=z:=⟨_,rfl⟩;obtain⟨wb,hwb⟩:∃wb,w.alloc (.cells wordsW.toArray 59)=wb:=⟨_,rfl⟩;have ub:Upd No w wb:=by rw[←hwb];exact(Upd.refl No w).alloc _
 have bb:Blk wb z 59 wordsW:=by rw[←hwb,←hz];exact Blk.new w _ _
 go_enter Try.func6,Try.ntmps6
 go_upto_region 1 with fail
 go_cut [3] (fun s wx=>s= .pointer (some ⟨z,0,none⟩)∧wx=wb)
 case first=>
  clear bb ub
  go_wp2_with fail
  go_meet
  case rel=>exact⟨by rw[←hz],by rw[←hwb];rfl⟩
 case rest=>
  obtain⟨rfl,rfl⟩:=hcut;clear hwb;have UB:=Qh ub
  by_cases h0:e<0
  ·have HT:=Qh (show ZA e=⟨#[120]⟩ by unfold ZA;rw[if_neg (by omega)]);have d0:decide (e<0)=true:=decide_eq_true h0;clear h0 bb ub;go_wp2
   go_ret
   exact⟨by rw[HT.out];rfl,UB.out⟩
  by_cases h1:18≤e
  ·have HT:=Qh (show ZA e=⟨#[120]⟩ by unfold ZA;rw[if_neg (by omega)]);have d0:decide (e<0)=false:=decide_eq_false h0;have d1:decide (18≤e)=true:=decide_eq_true h1;clear h0 h1 bb ub;go_wp2
   go_ret
   exact⟨by rw[HT.out];rfl,UB.out⟩
  have c0:wc.cell? ⟨z,e.toNat,none⟩=some (.string (ZA e)):=by rw[bb.cell];exact Zf9 e h0 (by omega)
  have d0:decide (e<0)=false:=decide_eq_false h0;have d1:decide (18≤e)=false:=decide_eq_false h1;have l0:0≤e:=by omega
  have l1:e<18:=by omega
  clear h0 h1 bb ub;go_wp2
  go_ret
  exact⟨rfl,UB.out⟩
set_option maxRecDepth 100000 in
set_option maxHeartbeats 4000000 in
theorem Zjf (w:World) (e:Int):Calls Try.prog 7 #[.int .i64 e] w fun x w'=>x= .returned (.string (ZA e))∧Upd No w w':=by
 obtain⟨z,hz⟩:∃z,w.heap.size=z:=⟨_,rfl⟩;obtain⟨wb,hwb⟩:∃wb,w.alloc (.cells wordsW.toArray 9)=wb:=⟨_,rfl⟩;have ub:Upd No w wb:=by rw[←hwb];exact(Upd.refl No w).alloc _
 have bb:Blk wb z 9 wordsW:=by rw[←hwb,←hz];exact Blk.new w _ _
 go_enter Try.func7,Try.ntmps7
 go_upto_region 1 with fail
 go_cut [3] (fun s wx=>s= .slice (some ⟨z,0,none⟩) 18 18∧wx=wb)
 case first=>
  clear bb ub
  go_wp2_with fail
  go_meet
  case rel=>exact⟨by rw[←hz],by rw[←hwb];rfl⟩
 case rest=>
  obtain⟨rfl,rfl⟩:=hcut;clear hwb;have UB:=Qh ub
  by_cases h0:e<0
  ·have HT:=Qh (show ZA e=⟨#[120]⟩ by unfold ZA;rw[if_neg (by omega)]);have d0:decide (e<0)=true:=decide_eq_true h0;clear h0 bb ub;go_wp2
   go_ret
   exact⟨by rw[HT.out];rfl,UB.out⟩
  by_cases h1:18≤e
  ·have HT:=Qh (show ZA e=⟨#[120]⟩ by unfold ZA;rw[if_neg (by omega)]);have d0:decide (e<0)=false:=decide_eq_false h0;have d1:decide (17<e)=true:=decide_eq_true (by omega);clear h0 h1 bb ub;go_wp2
   go_ret
   exact⟨by rw[HT.out];rfl,UB.out⟩
  have c0:wc.cell? ⟨z,e.toNat,none⟩=some (.string (ZA e)):=by rw[bb.cell];exact Zf9 e h0 (by omega)
  have d0:decide (e<0)=false:=decide_eq_false h0;have d1:decide (17<e)=false:=decide_eq_false (by omega);have l0:0≤e:=by omega
  have l1:e<18:=by omega
  clear h0 h1 bb ub;go_wp2
  go_ret
  exact⟨rfl,UB.out⟩
end
/- What is said of errors. -/
section
open Go.RowKit
def Zbe (e:Int):ByteArray:=if e=0 then ⟨#[111,107,10]⟩ else ⟨#[110,111,32]⟩++ZA e++⟨#[10]⟩
set_option maxRecDepth 100000 in
theorem ZiF (w:World) (e:Int):Calls Try.prog 8 #[.int .i64 e] w fun x w'=>x= .returned (.string (Zbe e))∧Upd No w w':=by
 by_cases h:e=0
 ·subst h;have HW:=Qh (Zfn w 0);rw[show ZA 0=⟨#[111,107]⟩ from rfl]at HW
  go_enter Try.func8,Try.ntmps8
  go_wp2_with fail
  refine(HW.out).mono ?_;rintro e w1 ⟨rfl,hu1⟩;go_wp2
  go_ret
  exact⟨rfl,hu1⟩
 ·have hb:(e==0)=false:=by simpa using h
  have HW:=Qh (Zfn w e);have HT:=Qh (show Zbe e=⟨#[110,111,32]⟩++ZA e++⟨#[10]⟩ by unfold Zbe;rw[if_neg h]);have hs:=Zfa e;have m1:(⟨#[110,111,32]⟩:ByteArray).size=3:=rfl;have m2:(⟨#[10]⟩:ByteArray).size=1:=rfl;have p1:¬9223372036854775807<3+(ZA e).size:=by omega
  have p2:¬9223372036854775807<3+(ZA e).size+1:=by omega
  clear h
  go_enter Try.func8,Try.ntmps8
  go_wp2_with fail
  refine(HW.out).mono ?_;rintro e w1 ⟨rfl,hu1⟩;go_wp2
  go_ret
  exact⟨by rw[HT.out];rfl,hu1⟩
set_option maxRecDepth 100000 in
theorem Znp (w:World) (e:Int):Calls Try.prog 9 #[.int .i64 e] w fun x w'=>x= .returned (.string (Zbe e))∧Upd No w w':=by
 by_cases h:e=0
 ·subst h
  go_enter Try.func9,Try.ntmps9
  go_wp2
  go_ret
  exact⟨rfl,Upd.refl _ _⟩
 ·have hb:(e==0)=false:=by simpa using h
  have HW:=Qh (Zjf w e);have HT:=Qh (show Zbe e=⟨#[110,111,32]⟩++ZA e++⟨#[10]⟩ by unfold Zbe;rw[if_neg h]);have hs:=Zfa e;have m1:(⟨#[110,111,32]⟩:ByteArray).size=3:=rfl;have m2:(⟨#[10]⟩:ByteArray).size=1:=rfl;have p1:¬9223372036854775807<3+(ZA e).size:=by omega
  have p2:¬9223372036854775807<3+(ZA e).size+1:=by omega
  clear h
  go_enter Try.func9,Try.ntmps9
  go_wp2_with fail
  refine(HW.out).mono ?_;rintro e w1 ⟨rfl,hu1⟩;go_wp2
  go_ret
  exact⟨by rw[HT.out];rfl,hu1⟩
end
/- Queues and stacks:what they are in memory,and walks of the calls that only look. -/
section
open Go.RowKit
def grow (n:Nat):Nat:=if n=0 then 1 else 2*n
namespace Que
variable {w w':World} {F S:Nat→Prop} {g:Nat} {room:Int} {xs:List Int}
end Que
end
/- Queues:what is first,and taken. Stacks. -/
section
open Go.RowKit
def ZlX (n:Int):Int:=max 0 (min n 65536)
end
/- Rows of places that are set or not (bitrow):words of 64 places. -/
section
open Go.RowKit
def WOk (N:Nat) (S:Nat→Bool) (ws:List Nat):Prop:=ws.length=(N+63)/64∧(∀x∈ws,x<18446744073709551616)∧∀i,i<N→(ws.getD (i/64) 0).testBit (i%64)=S i
theorem WOk.at_ {N:Nat} {S:Nat→Bool} {ws:List Nat} (h:WOk N S ws) {i:Nat} (hi:i<N):∃x,ws[i/64]? =some x∧x<18446744073709551616∧x.testBit (i%64)=S i:=by
 obtain⟨h1,h2,h3⟩:=h;have hl:i/64<ws.length:=by omega
 refine⟨ws[i/64],Qg hl,h2 _ (List.getElem_mem hl),?_⟩;have:=h3 i hi
 rwa [List.getD_eq_getElem?_getD,Qg hl,Option.getD_some]at this
end
end Go.Proofs.Ytdbjokfejmgepaa
