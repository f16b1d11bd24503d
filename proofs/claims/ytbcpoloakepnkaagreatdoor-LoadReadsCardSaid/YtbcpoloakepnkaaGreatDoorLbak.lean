/- strings.Join, laid by hand: the table of numbers typed out; lex.Join. -/
import Derived.Shelf.Strings.OnBuilder
import Derived.Test.YtbcpoloakepnkaaGreatDoorProg
import Derived.Test.YtbcpoloakepnkaaGreatDoorLbaf
namespace Go.Proofs.YtbcpoloakepnkaaGreatDoor
set_option linter.unusedVariables false
set_option linter.unusedSimpArgs false
section
open Go.Shelf Go.RowKit
def Zd0:Ren:=⟨fun|156=>56|165=>69|166=>25|169=>26|240=>44|241=>81|276=>59|277=>90|n=>n,fun|0=>0|3=>3|4=>4|5=>5|9=>9|20=>20|31=>41|37=>53|70=>52|72=>55|75=>57|76=>58|80=>60|127=>84|164=>99|n=>n,fun|n=>n⟩
theorem ZcB:Go.Proofs.Lays.n156 Tryz.prog Zd0:={
 mixed:=by kernel_rfl
 f156:=Tryz.func56.trans (congrArg some (by kernel_rfl))
 f165:=Tryz.func69.trans (congrArg some (by kernel_rfl))
 f166:=Tryz.func25.trans (congrArg some (by kernel_rfl))
 f169:=Tryz.func26.trans (congrArg some (by kernel_rfl))
 f240:=Tryz.func44.trans (congrArg some (by kernel_rfl))
 f241:=Tryz.func81.trans (congrArg some (by kernel_rfl))
 f276:=Tryz.func59.trans (congrArg some (by kernel_rfl))
 f277:=Tryz.func90.trans (congrArg some (by kernel_rfl))
 t0:=Tryz.underlying0
 a0:=Tryz.isAgg0
 z0:=Tryz.sizeOf0
 v0:=Tryz.zeroValue0
 t3:=Tryz.underlying3
 a3:=Tryz.isAgg3
 z3:=Tryz.sizeOf3
 v3:=Tryz.zeroValue3
 t4:=Tryz.underlying4
 a4:=Tryz.isAgg4
 z4:=Tryz.sizeOf4
 v4:=Tryz.zeroValue4
 t9:=Tryz.underlying9
 a9:=Tryz.isAgg9
 z9:=Tryz.sizeOf9
 v9:=Tryz.zeroValue9
 t20:=Tryz.underlying20
 a20:=Tryz.isAgg20
 z20:=Tryz.sizeOf20
 v20:=Tryz.zeroValue20
 t31:=Tryz.underlying41
 a31:=Tryz.isAgg41
 z31:=Tryz.sizeOf41
 v31:=Tryz.zeroValue41
 t37:=Tryz.underlying53
 a37:=Tryz.isAgg53
 z37:=Tryz.sizeOf53
 v37:=Tryz.zeroValue53
 t70:=Tryz.underlying52
 a70:=Tryz.isAgg52
 z70:=Tryz.sizeOf52
 v70:=Tryz.zeroValue52
 t72:=Tryz.underlying55
 a72:=Tryz.isAgg55
 z72:=Tryz.sizeOf55
 v72:=Tryz.zeroValue55
 t75:=Tryz.underlying57
 a75:=Tryz.isAgg57
 z75:=Tryz.sizeOf57
 v75:=Tryz.zeroValue57
 t76:=Tryz.underlying58
 a76:=Tryz.isAgg58
 z76:=Tryz.sizeOf58
 v76:=Tryz.zeroValue58
 t127:=Tryz.underlying84
 a127:=Tryz.isAgg84
 z127:=Tryz.sizeOf84
 v127:=Tryz.zeroValue84
 t164:=Tryz.underlying99
 a164:=Tryz.isAgg99
 z164:=Tryz.sizeOf99
 v164:=Tryz.zeroValue99}
theorem Zd1:Builder.Extra Tryz.prog Zd0:={
 sizeBuilder:=by kernel_rfl
 liesBuilder:=by kernel_rfl
 t5:=Tryz.underlying5
 a5:=Tryz.isAgg5
 z5:=Tryz.sizeOf5
 v5:=Tryz.zeroValue5
 infoByte:=by kernel_rfl
 cellsByte:=by kernel_rfl
 sizeByte:=by kernel_rfl
 neB5:=by decide}
def Zs (xs:List ByteArray):List Value:=xs.map Value.string
theorem Zd8 (bk o c:Nat) (xs:List ByteArray) (sep:ByteArray) (w:World) (hcells:∀(j:Nat) x,xs[j]? =some x→w.cell? ⟨bk,o+j,none⟩=some (.string x)) (hbk:bk<w.heap.size) (hN:xs.length≤140737488355328) (hcap:xs.length≤c) (hlen:(Lib.join (xs.map (·.data.toList)) sep.data.toList).length≤140737488355328):
  Calls Tryz.prog 56 #[.slice (some ⟨bk,o,none⟩) xs.length c,.string sep] w fun e w'=>e= .returned (.string ⟨(Lib.join (xs.map (·.data.toList)) sep.data.toList).toArray⟩)∧Below w.heap.size w w':=Any.strings_Join ZcB Zd1 bk o c xs sep w hcells hbk hN hcap hlen
def Zo (xs:List ByteArray):ByteArray:=⟨(Lib.join (xs.map (·.data.toList)) [32]).toArray⟩
set_option maxRecDepth 100000 in
theorem ZaC (w:World) {base:Nat} {v:Value} {n:Nat} (xs:List ByteArray) (h:w.ownsRow base 9 1 v n (Zs xs)) (hne:xs≠[]) (hN:xs.length≤1000000) (hlen:(Lib.join (xs.map (·.data.toList)) [32]).length≤140737488355328):
  Calls Tryz.prog 39 #[v] w fun e w'=>e= .returned (.string (Zo xs))∧Upd No w w':=by
 have hn:n=xs.length:=by have:=h.1;unfold Zs at this;simp at this;omega
 subst hn
 obtain⟨g,c,rfl,hg,hlt,hc⟩:∃g c,v= .slice (some ⟨g,0,none⟩) xs.length c∧(∀j u,(Zs xs)[j]? =some u→w.cell? ⟨g,j,none⟩=some u)∧g<w.heap.size∧xs.length≤c:=by
  have hx:0<xs.length:=List.length_pos_iff.2 hne;rcases h.2 with ⟨_,h2⟩|⟨g,cap,cur,rfl,h3,h4,h5,h6,h7,h8⟩
  ·omega
  ·exact⟨g,cap,rfl,fun j u hj=>by have e1:(⟨g,0,none⟩:Addr).add j=⟨g,j,none⟩:=(by unfold Addr.add;split<;>simp_all);rw[←e1];exact h.cells (g:=g) rfl j u hj,(h.lt g rfl).2,by omega⟩
 have CJ:=Qh (Zd8 g 0 c xs ⟨#[32]⟩ w (fun j x hj=>by rw[Nat.zero_add];exact hg j _ (by unfold Zs;rw[List.getElem?_map,hj];rfl)) hlt (by omega) hc hlen);clear h hg hlt hc
 go_enter Tryz.func39,Tryz.ntmps39
 go_wp2_with fail
 refine(CJ.out).mono ?_;rintro e w1 ⟨rfl,hb1⟩;go_wp2
 go_ret
 exact⟨rfl,hb1.os,hb1.tape,hb1.output,hb1.size,fun j hj hn=>hb1.block j hj⟩
end
/- Words with blanks between,plain. -/
section
open Go.RowKit
theorem Zci (y:List UInt8) (r:List (List UInt8)) (x:List UInt8):Lib.join (y::(r++[x])) [32]=Lib.join (y::r) [32]++32::x:=by
 rw[Lib.join_cons,Lib.join_cons];unfold Lib.joinTail;simp
theorem ZT (x:ByteArray):Zo [x]=x:=by
 unfold Zo;rw[List.map_cons,List.map_nil,Lib.join_one]
theorem Zb3 {xs:List ByteArray} (h:xs≠[]) (x:ByteArray):Zo (xs++[x])=Zo xs++(⟨#[32]⟩++x):=by
 cases xs with
 |nil=>exact absurd rfl h
 |cons y r=>
  unfold Zo;rw[List.cons_append,List.map_cons,List.map_append,List.map_cons,List.map_nil,Zci,List.map_cons]
  apply ByteArray.ext
  simp
theorem ZU (xs:List ByteArray):(Lib.join (xs.map (·.data.toList)) [32]).length=(Zo xs).size:=by
 unfold Zo
 show _=(Array.size _)
 rw[List.size_toArray]
theorem Zb4 (a b c:ByteArray):a++b++c=a++(b++c):=by apply ByteArray.ext;simp
end
end Go.Proofs.YtbcpoloakepnkaaGreatDoor
