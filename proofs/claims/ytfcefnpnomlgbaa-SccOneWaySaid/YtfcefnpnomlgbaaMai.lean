/- Rows of places that are set or not (bitrow): words of 64 places. -/
import Derived.Test.YtfcefnpnomlgbaaProg
import Derived.Deep.RegionHeld3
import Derived.Deep.AppendLies
import Derived.Test.YtfcefnpnomlgbaaMae
import Derived.Test.YtfcefnpnomlgbaaMag
namespace Go.Proofs.Ytfcefnpnomlgbaa
set_option linter.unusedSimpArgs false
set_option linter.unusedVariables false
open Go.RowKit
theorem Zb8 (n:Nat) (h:n<18446744073709551616):IntKind.u64.wrap (n:Int)=(n:Int):=by
 show(n:Int)%18446744073709551616=n
 omega
theorem ZbH (n:Nat) (h:n<18446744073709551616):(BitVec.ofInt 64 (n:Int)).toNat=n:=by
 rw[BitVec.toNat_ofInt]
 have:((n:Int)%((2 ^ 64:Nat):Int))=(n:Int):=Int.emod_eq_of_lt (by omega) (by omega)
 rw[this];omega
theorem ZfL (i:Nat) (h:i<9223372036854775808):bits .and .i64 (i:Int) 63=((i%64:Nat):Int):=by
 have e:bits .and .i64 (i:Int) 63=IntKind.i64.wrap (((BitVec.ofInt 64 (i:Int) &&& BitVec.ofInt 64 63).toNat:Nat):Int):=rfl
 rw[e,BitVec.toNat_and,ZbH i (by omega),show(BitVec.ofInt 64 63).toNat=2 ^ 6-1 from rfl,Nat.and_two_pow_sub_one_eq_mod]
 exact IntWalk.i64_in _ (by have:=Nat.mod_lt i (show 0<2 ^ 6 by decide);omega)
theorem ZgN (x:Nat) (h:x<18446744073709551616):bits .and .u64 (x:Int) 1=((x%2:Nat):Int):=by
 have e:bits .and .u64 (x:Int) 1=IntKind.u64.wrap (((BitVec.ofInt 64 (x:Int) &&& BitVec.ofInt 64 1).toNat:Nat):Int):=rfl
 rw[e,BitVec.toNat_and,ZbH x h,show(BitVec.ofInt 64 1).toNat=1 from rfl,Nat.and_one_is_mod]
 exact Zb8 _ (by omega)
theorem ZgS (x y:Nat) (h:x<18446744073709551616) (k:y<18446744073709551616):bits .xor .u64 (x:Int) (y:Int)=((x ^^^ y:Nat):Int):=by
 have e:bits .xor .u64 (x:Int) (y:Int)=IntKind.u64.wrap (((BitVec.ofInt 64 (x:Int) ^^^ BitVec.ofInt 64 (y:Int)).toNat:Nat):Int):=rfl
 rw[e,BitVec.toNat_xor,ZbH x h,ZbH y k]
 exact Zb8 _ (Nat.xor_lt_two_pow (n:=64) h k)
def WOk (N:Nat) (S:Nat→Bool) (ws:List Nat):Prop:=ws.length=(N+63)/64∧(∀x∈ws,x<18446744073709551616)∧∀i,i<N→(ws.getD (i/64) 0).testBit (i%64)=S i
theorem WOk.at_ {N:Nat} {S:Nat→Bool} {ws:List Nat} (h:WOk N S ws) {i:Nat} (hi:i<N):∃x,ws[i/64]? =some x∧x<18446744073709551616∧x.testBit (i%64)=S i:=by
 obtain⟨h1,h2,h3⟩:=h
 have hl:i/64<ws.length:=by omega
 refine⟨ws[i/64],List.getElem?_eq_getElem hl,h2 _ (List.getElem_mem hl),?_⟩
 have:=h3 i hi
 rwa [List.getD_eq_getElem?_getD,List.getElem?_eq_getElem hl,Option.getD_some]at this
theorem ZdF (x k:Nat):x.testBit k=decide (x/2 ^ k%2=1):=by
 rw[Nat.testBit_eq_decide_div_mod_eq]
def ZaM (S:Nat→Bool) (i:Nat) (on:Bool):Nat→Bool:=fun j=>if j=i then on else S j
theorem WOk.turn {N:Nat} {S:Nat→Bool} {ws:List Nat} (h:WOk N S ws) {i x:Nat} (hi:i<N) (hx:ws[i/64]? =some x):WOk N (ZaM S i (!S i)) (ws.set (i/64) (x ^^^ 2 ^ (i%64))):=by
 obtain⟨h1,h2,h3⟩:=h
 have hl:i/64<ws.length:=by omega
 have hm:i%64<64:=Nat.mod_lt _ (by decide)
 obtain⟨_,hx'⟩:=List.getElem?_eq_some_iff.1 hx
 have hxs:=h2 x (by rw[←hx'];exact List.getElem_mem hl)
 refine⟨by rw[List.length_set];exact h1,fun y hy=> ?_,fun j hj=> ?_⟩
 ·rcases List.mem_or_eq_of_mem_set hy with hy|rfl
  ·exact h2 y hy
  ·exact Nat.xor_lt_two_pow (n:=64) hxs (Nat.pow_lt_pow_right (by decide) hm)
 ·rw[List.getD_eq_getElem?_getD,List.getElem?_set]
  unfold ZaM
  by_cases hw:i/64=j/64
  ·rw[if_pos hw,if_pos (by omega),Option.getD_some,Nat.testBit_xor,Nat.testBit_two_pow]
   have hS:x.testBit (j%64)=S j:=by
    have:=h3 j hj
    rwa [List.getD_eq_getElem?_getD,←hw,hx,Option.getD_some]at this
   rw[hS]
   by_cases e:j=i
   ·subst e;simp
   ·rw[if_neg e,decide_eq_false (by omega)];simp
  ·rw[if_neg hw,if_neg (fun e=>hw (by rw[e]))]
   have:=h3 j hj
   rwa [List.getD_eq_getElem?_getD]at this
def BRow (w:World) (F:Nat→Prop) (g N:Nat) (S:Nat→Bool):Prop:=
 ∃b ws,F g∧F b∧g≠b∧(∀k,F k→k<w.heap.size)∧N≤65536∧Blk w g 84 [.int .i64 N,.slice (some ⟨b,0,none⟩) ws.length ws.length]∧Blk w b 102 (ws.map fun x:Nat=> .int .u64 (x:Int))∧WOk N S ws
theorem BRow.upd {w w':World} {F T:Nat→Prop} {g N:Nat} {S:Nat→Bool} (h:BRow w F g N S) (k:Upd T w w') (hn:∀i,F i→¬T i):BRow w' F g N S:=by
 obtain⟨b,ws,h1,h2,h3,h4,h5,h6,h7,h8⟩:=h
 exact⟨b,ws,h1,h2,h3,fun i hi=>Nat.lt_of_lt_of_le (h4 i hi) k.size,h5,h6.upd k (hn _ h1),h7.upd k (hn _ h2),h8⟩
theorem Zhb (w:World) (F:Nat→Prop) (g N:Nat) (S:Nat→Bool) (h:BRow w F g N S):Calls Try.prog 79 #[.pointer (some ⟨g,0,none⟩)] w fun e w'=>e= .returned (.int .i64 (N:Int))∧w=w':=by
 obtain⟨b,ws,_,_,_,_,_,h6,_,_⟩:=h
 have c0:=h6.cell 0
 simp only[List.getElem?_cons_zero]at c0
 clear h6
 go_enter Try.func79,Try.ntmps79
 go_wp2
 go_ret
 exact⟨rfl,rfl⟩
theorem ZeQ (w:World) (F:Nat→Prop) (g N:Nat) (S:Nat→Bool) (h:BRow w F g N S) (i:Nat) (hi:i<N):Calls Try.prog 59 #[.pointer (some ⟨g,0,none⟩),.int .i64 (i:Int)] w fun e w'=>e= .returned (.bool true)∧w=w':=by
 have HL:=Lib.hid (Zhb w F g N S h)
 have e1:(0:Int)≤(i:Int):=Int.natCast_nonneg _
 have e2:decide (i<N)=true:=decide_eq_true hi
 clear h
 go_enter Try.func59,Try.ntmps59
 go_wp2_with fail
 refine(HL.out).mono ?_
 rintro e w1 ⟨rfl,rfl⟩
 go_wp2
 go_ret
 exact⟨rfl,rfl⟩
set_option maxRecDepth 10000 in
theorem Zgu (w:World) (F:Nat→Prop) (g N:Nat) (S:Nat→Bool) (h:BRow w F g N S) (i:Nat) (hi:i<N):Calls Try.prog 45 #[.pointer (some ⟨g,0,none⟩),.int .i64 (i:Int)] w fun e w'=>e= .returned (.bool (S i))∧w=w':=by
 have HT:=Lib.hid (ZeQ w F g N S h i hi)
 obtain⟨b,ws,hg,hb,hne,hlt,hN,h6,h7,h8⟩:=id h
 obtain⟨x,hx,hx2,hx3⟩:=h8.at_ hi
 have hlw:i/64<ws.length:=(List.getElem?_eq_some_iff.1 hx).1
 obtain⟨q,hq⟩:∃q,i/64=q:=⟨_,rfl⟩
 obtain⟨r,hr⟩:∃r,i%64=r:=⟨_,rfl⟩
 have hr64:r<64:=by omega
 rw[hq]at hx hlw
 rw[hr]at hx3
 have c1:=h6.cell 1
 simp only[List.getElem?_cons_zero,List.getElem?_cons_succ]at c1
 have k1:w.cell? ⟨b,q,none⟩=some (.int .u64 (x:Int)):=by rw[h7.cell,List.getElem?_map,hx];rfl
 have e6:(i:Int)/64=(q:Int):=by omega
 have e7:bits .and .i64 (i:Int) 63=(r:Int):=by rw[ZfL i (by omega),hr]
 have e8:(0:Int)≤(q:Int):=Int.natCast_nonneg _
 have e9:(q:Int)<(ws.length:Int):=by omega
 have f1:IntKind.u64.wrap (r:Int)=(r:Int):=Zb8 _ (by omega)
 have f0:(0:Int)≤(r:Int):=Int.natCast_nonneg _
 have f64:(r:Int)≤64:=by omega
 obtain⟨y,hy⟩:∃y,x/2 ^ r=y:=⟨_,rfl⟩
 obtain⟨t,ht⟩:∃t,y%2=t:=⟨_,rfl⟩
 have f2:(x:Int)/2 ^ r=(y:Int):=by rw[←hy,Int.natCast_ediv];simp
 have f3:bits .and .u64 (y:Int) 1=(t:Int):=by rw[ZgN _ (by rw[←hy];exact Nat.lt_of_le_of_lt (Nat.div_le_self _ _) hx2),ht]
 have f4:((t:Int)==1)=S i:=by
  rw[←hx3,ZdF,hy,ht]
  by_cases hc:t=1
  ·rw[hc];rfl
  ·rw[decide_eq_false hc,beq_eq_false_iff_ne];omega
 obtain⟨v,hv⟩:∃v,S i=v:=⟨_,rfl⟩
 rw[hv]at f4 ⊢
 have HI:=Lib.hid hi
 clear h h6 h7 h8 hx hx3 hlt hq hr hy ht hv hi
 go_enter Try.func45,Try.ntmps45
 go_wp2_with fail
 refine(HT.out).mono ?_
 rintro e w1 ⟨rfl,rfl⟩
 go_wp2
 go_ret
 exact⟨rfl,rfl⟩
theorem Zev {S:Nat→Bool} {i:Nat}:ZaM S i (S i)=S:=by
 funext j
 unfold ZaM
 split
 ·rename_i e;rw[e]
 ·rfl
set_option maxRecDepth 10000 in
theorem Zgt (w:World) (F:Nat→Prop) (g N:Nat) (S:Nat→Bool) (h:BRow w F g N S) (i:Nat) (hi:i<N) (on:Bool):Calls Try.prog 56 #[.pointer (some ⟨g,0,none⟩),.int .i64 (i:Int),.bool on] w fun e w'=>e= .returned (.bool (S i != on))∧BRow w' F g N (ZaM S i on)∧Upd F w w':=by
 have HT:=Lib.hid (ZeQ w F g N S h i hi)
 have HH:=Lib.hid (Zgu w F g N S h i hi)
 have HB:=Lib.hid h
 obtain⟨v,hv⟩:∃v,S i=v:=⟨_,rfl⟩
 rw[hv]at HH ⊢
 by_cases he:v=on
 ·have HS:=Lib.hid (show BRow w F g N (ZaM S i on) by rw[←he,←hv,Zev];exact h)
  have h1:(v==on)=true:=by simpa using he
  have h2:(v != on)=false:=by simp[he]
  clear h hv
  rw[h2]
  clear he h2
  go_enter Try.func56,Try.ntmps56
  go_wp2_with fail
  refine(HT.out).mono ?_
  rintro e w1 ⟨rfl,rfl⟩
  go_wp2_with fail
  refine(HH.out).mono ?_
  rintro e w1 ⟨rfl,rfl⟩
  go_wp2
  go_ret
  exact⟨rfl,HS.out,Upd.refl _ _⟩
 ·have hon:on= !v:=by cases v<;>cases on<;>simp_all
  subst hon
  have h1:(v== !v)=false:=by cases v<;>rfl
  have h2:(v != !v)=true:=by cases v<;>rfl
  rw[h2]
  obtain⟨b,ws,hg,hb,hne,hlt,hN,h6,h7,h8⟩:=id h
  obtain⟨x,hx,hx2,hx3⟩:=h8.at_ hi
  have hlw:i/64<ws.length:=(List.getElem?_eq_some_iff.1 hx).1
  obtain⟨q,hq⟩:∃q,i/64=q:=⟨_,rfl⟩
  obtain⟨r,hr⟩:∃r,i%64=r:=⟨_,rfl⟩
  have hr64:r<64:=by omega
  rw[hq]at hx hlw
  rw[hr]at hx3
  have c1:=h6.cell 1
  simp only[List.getElem?_cons_zero,List.getElem?_cons_succ]at c1
  have k1:w.cell? ⟨b,q,none⟩=some (.int .u64 (x:Int)):=by rw[h7.cell,List.getElem?_map,hx];rfl
  have e6:(i:Int)/64=(q:Int):=by omega
  have e7:bits .and .i64 (i:Int) 63=(r:Int):=by rw[ZfL i (by omega),hr]
  have e8:(0:Int)≤(q:Int):=Int.natCast_nonneg _
  have e9:(q:Int)<(ws.length:Int):=by omega
  have f1:IntKind.u64.wrap (r:Int)=(r:Int):=Zb8 _ (by omega)
  have f0:(0:Int)≤(r:Int):=Int.natCast_nonneg _
  have f64:(r:Int)≤64:=by omega
  have HW:=Lib.hid (h8.turn hi (x:=x) (by rw[hq];exact hx))
  rw[hv,hq,hr]at HW
  obtain⟨y,hy⟩:∃y,2 ^ r=y:=⟨_,rfl⟩
  have hy2:y<18446744073709551616:=by rw[←hy];exact Nat.pow_lt_pow_right (n:=64) (by decide) hr64
  obtain⟨t,ht⟩:∃t,x ^^^ y=t:=⟨_,rfl⟩
  have f2:IntKind.u64.wrap (2 ^ r)=(y:Int):=by
   rw[show(2:Int) ^ r=((2 ^ r:Nat):Int) by simp,hy];exact Zb8 y hy2
  have f3:bits .xor .u64 (x:Int) (y:Int)=(t:Int):=by rw[ZgS _ _ hx2 hy2,ht]
  rw[hy,ht]at HW
  have fz:w.frozen? ⟨b,q,none⟩=false:=h7.free q
  have HN:=Lib.hid (show BRow (w.setCell ⟨b,q,none⟩ (.int .u64 (t:Int))) F g N (ZaM S i (!v)) from by
   refine⟨b,ws.set q t,hg,hb,hne,fun k hk=>by rw[World.size_setCell];exact hlt k hk,hN,?_,?_,HW.out⟩
   ·rw[List.length_set];exact h6.upd ((Upd.refl (One b) w).setOne q _) (fun e=>hne e)
   ·have:=h7.set_ q (.int .u64 (t:Int))
    rwa [List.map_set])
  have HU:=Lib.hid (show Upd F w (w.setCell ⟨b,q,none⟩ (.int .u64 (t:Int))) from((Upd.refl (One b) w).setOne q _).mono (fun i _ e=>e▸hb))
  clear h h6 h7 h8 hx hx3 hlt hq hr hy ht hv hi HW
  go_enter Try.func56,Try.ntmps56
  go_wp2_with fail
  refine(HT.out).mono ?_
  rintro e w1 ⟨rfl,rfl⟩
  go_wp2_with fail
  refine(HH.out).mono ?_
  rintro e w1 ⟨rfl,rfl⟩
  go_wp2
  go_ret
  exact⟨rfl,HN.out,HU.out⟩
theorem ZfP:SlT Try.prog 81 102 1 8:=SlT.mk_ Try.underlying81 (z:= .int .u64 0) (by kernel_rfl) rfl (by omega)
def ZbE (m:Nat):Array Value:=(List.replicate m (Value.int .u64 0)).toArray
theorem Zfi (m:Nat) (hm:m≤100000) (W:World):(Instr.makeSlice 81 (.int .i64 (m:Int)) (.int .i64 (m:Int))).run Try.prog W= .ok (.slice (some ⟨W.heap.size,0,none⟩) m m) (W.alloc (.cells (ZbE m) 102)):=by
 have:ZbE m=madeCells #[Value.int .u64 0] (m*1):=by
  unfold ZbE
  apply Array.ext
  ·simp[madeCells]
  ·intro i h1 h2
   simp[madeCells,Nat.mod_one]
 rw[this]
 exact Zce W ZfP (z:= .int .u64 0) (by kernel_rfl) m (by omega) (by omega)
theorem Zha (w:World) (N:Nat) (hN:N≤65536):Calls Try.prog 29 #[.int .i64 (N:Int)] w fun e w'=>∃g,e= .returned (.pointer (some ⟨g,0,none⟩))∧w.heap.size≤g∧BRow w' (fun i=>w.heap.size≤i∧i<w'.heap.size) g N (fun _=>false)∧Upd No w w':=by
 obtain⟨m,hm⟩:∃m,(N+63)/64=m:=⟨_,rfl⟩
 have e1:max (N:Int) 0=(N:Int):=by omega
 have e2:min (N:Int) 65536=(N:Int):=by omega
 have e3:IntKind.i64.wrap ((N:Int)+63)=(N:Int)+63:=IntWalk.i64_in _ (by omega)
 have e4:((N:Int)+63)/64=(m:Int):=by omega
 have hmk:=fun W=>Zfi m (by omega) W
 have HM:=Lib.hid hm
 have HN:=Lib.hid hN
 clear hm hN
 go_enter Try.func29,Try.ntmps29
 go_wp2
 go_ret
 refine⟨w.heap.size+1,rfl,by omega,⟨w.heap.size,List.replicate m 0,⟨by omega,by simp⟩,⟨by omega,by simp;omega⟩,by omega,fun k hk=>hk.2,HN.out,?_,?_,?_⟩,((Upd.refl _ _).alloc _).alloc _⟩
 ·rw[List.length_replicate]
  have:=Blk.new (w.alloc (.cells (ZbE m) 102)) 84 [.int .i64 (N:Int),.slice (some ⟨w.heap.size,0,none⟩) m m]
  simpa using this
 ·have:=(Blk.new w 102 (List.replicate m (Value.int .u64 0))).alloc (.cells #[.int .i64 (N:Int),.slice (some ⟨w.heap.size,0,none⟩) m m] 84)
  rw[List.map_replicate]
  exact this
 ·refine⟨by rw[List.length_replicate];exact HM.out.symm,fun x hx=> ?_,fun i hi=> ?_⟩
  ·rw[List.mem_replicate]at hx
   omega
  ·rw[List.getD_eq_getElem?_getD,List.getElem?_replicate]
   split<;>simp
end Go.Proofs.Ytfcefnpnomlgbaa
/- Queues and stacks:what they are in memory,and walks of the calls that only look. -/
namespace Go.Proofs.Ytfcefnpnomlgbaa
set_option linter.unusedSimpArgs false
set_option linter.unusedVariables false
open Go.RowKit
theorem Zc2:SlT Try.prog 32 3 1 8:=SlT.mk_ Try.underlying32 (z:= .int .i64 0) (by kernel_rfl) rfl (by omega)
def grow (n:Nat):Nat:=if n=0 then 1 else 2*n
namespace Que
variable {w w':World} {F S:Nat→Prop} {g:Nat} {room:Int} {xs:List Int}
end Que
end Go.Proofs.Ytfcefnpnomlgbaa
/- Queues:what is first,and taken. Stacks. -/
namespace Go.Proofs.Ytfcefnpnomlgbaa
set_option linter.unusedSimpArgs false
set_option linter.unusedVariables false
open Go.RowKit
def Zai (n:Int):Int:=max 0 (min n 65536)
theorem Zd6 (k:IntKind) {a b:Int} (h:a=b):Ending.returned (.int k a)=Ending.returned (.int k b):=by rw[h]
theorem Zd1 (w:World) (n:Int):Calls Try.prog 42 #[.int .i64 n] w fun e w'=>e= .returned (.int .i64 (Zai n))∧w=w':=by
 by_cases h1:n<0
 ·go_enter Try.func42,Try.ntmps42
  go_wp2
  go_ret
  exact⟨Zd6 _ (by unfold Zai;omega),rfl⟩
 ·by_cases h2:65536<n
  ·go_enter Try.func42,Try.ntmps42
   go_wp2
   go_ret
   exact⟨Zd6 _ (by unfold Zai;omega),rfl⟩
  ·go_enter Try.func42,Try.ntmps42
   go_wp2
   go_ret
   exact⟨Zd6 _ (by unfold Zai;omega),rfl⟩
def Sta (w:World) (F:Nat→Prop) (g:Nat) (room:Int) (xs:List Int):Prop:=
 ∃v,F g∧(∀k,v.ownBlock=some k→F k∧k≠g)∧(∀k,F k→k<w.heap.size)∧
  Blk w g 80 [v,.int .i64 room]∧w.ownsRow 0 3 1 v xs.length (xs.reverse.map (Value.int .i64))
theorem Sta.upd {w w':World} {F S:Nat→Prop} {g:Nat} {room:Int} {xs:List Int} (h:Sta w F g room xs) (k:Upd S w w') (hn:∀i,F i→¬S i):Sta w' F g room xs:=by
 obtain⟨v,h1,h2,h3,h4,h5⟩:=h
 exact⟨v,h1,h2,fun i hi=>Nat.lt_of_lt_of_le (h3 i hi) k.size,h4.upd k (hn _ h1),Zb h5 k (fun i hi=>hn _ (h2 i hi).1)⟩
theorem Sta.lt {w:World} {F:Nat→Prop} {g:Nat} {room:Int} {xs:List Int} (h:Sta w F g room xs):∀i,F i→i<w.heap.size:=by
 obtain⟨v,h1,h2,h3,_⟩:=h
 exact h3
theorem Zg0 (w:World) (n:Int):Calls Try.prog 28 #[.int .i64 n] w fun e w'=>∃g,e= .returned (.pointer (some ⟨g,0,none⟩))∧w.heap.size≤g∧Sta w' (One g) g (Zai n) []∧Upd No w w':=by
 go_enter Try.func28,Try.ntmps28
 go_wp2_with fail
 refine(Zd1 _ _).mono ?_
 rintro e w' ⟨rfl,rfl⟩
 go_wp2
 go_ret
 refine⟨_,rfl,Nat.le_refl _,⟨.slice none 0 0,rfl,?_,?_,Blk.new _ _ _,by simpa using World.ownsRow_nil _ _ _ _⟩,(Upd.refl _ _).alloc _⟩
 ·intro k hk;simp[Value.ownBlock]at hk
 ·intro k hk
  have:k=w.heap.size:=hk
  simp;omega
theorem Zg2 (w:World) (F:Nat→Prop) (g:Nat) (room:Int) (xs:List Int) (h:Sta w F g room xs):
  Calls Try.prog 87 #[.pointer (some ⟨g,0,none⟩)] w fun e w'=>e= .returned (.int .i64 xs.length)∧w=w':=by
 obtain⟨v,h1,h2,h3,h4,h5⟩:=h
 obtain⟨A,c,rfl⟩:=ZV h5
 have c0:=h4.cell 0
 simp only[List.getElem?_cons_zero,List.getElem?_cons_succ]at c0
 clear h2 h3
 go_enter Try.func87,Try.ntmps87
 go_wp2
 go_ret
 exact⟨rfl,rfl⟩
theorem Zgy (w:World) (F:Nat→Prop) (g:Nat) (room:Int) (xs:List Int) (h:Sta w F g room xs) (hr:0≤room) (hr2:room≤65536) (hl:xs.length≤65536):
  Calls Try.prog 75 #[.pointer (some ⟨g,0,none⟩)] w fun e w'=>e= .returned (.int .i64 (room-xs.length))∧∃q,w'=w.drewN q:=by
 obtain⟨v,h1,h2,h3,h4,h5⟩:=h
 obtain⟨A,c,rfl⟩:=ZV h5
 have c0:=h4.cell 0
 have c1:=h4.cell 1
 simp only[List.getElem?_cons_zero,List.getElem?_cons_succ]at c0 c1
 clear h2 h3
 go_enter Try.func75,Try.ntmps75
 go_wp2
 go_quiet (fail)
 go_wp2
 go_ret
 exact⟨rfl,_,rfl⟩
end Go.Proofs.Ytfcefnpnomlgbaa
/- When two lists of numbers are one,by the document. -/
namespace Go.Proofs.Ytfcefnpnomlgbaa
set_option linter.unusedSimpArgs false
set_option linter.unusedVariables false
open Go.RowKit
theorem Zcd (w:World) (F G:Nat→Prop) (A B:Option Addr) (c d:Nat) (xs ys:List Int) (hx:Ints F w A xs) (hy:Ints G w B ys) (hl:xs.length≤1048576) (hl2:ys.length≤1048576):
  Calls Try.prog 12 #[.slice A xs.length c,.slice B ys.length d] w fun e w'=>e= .returned (.bool (xs==ys))∧Upd No w w':=by
 by_cases hne:xs.length=ys.length
 ·have hb:((xs.length:Int) != (ys.length:Int))=false:=by rw[hne];simp
  go_enter Try.func12,Try.ntmps12
  have Hne:=Lib.hid hne
  clear hne
  go_wp2
  go_loopg [5,13] xs.length (fun gk j i wr=>∃k:Nat,k+gk=xs.length∧i= .int .i64 k∧xs.take k=ys.take k∧Upd No w wr)
  case atStart=>exact⟨0,by omega,rfl,by simp,Upd.refl _ _⟩
  case round=>
   obtain⟨k,hgk,rfl,hs,hu⟩:=hrel
   have Hs:=Lib.hid hs
   clear hs
   by_cases hlt:k<xs.length
   ·have hlt2:k<ys.length:=by have:=Hne.out;omega
    obtain⟨ax,rfl,_,_,hcx⟩:=(hx.upd hu (fun _ _=>id)).at_ hlt
    obtain⟨ay,rfl,_,_,hcy⟩:=(hy.upd hu (fun _ _=>id)).at_ hlt2
    have b1:(0:Int)≤(k:Int):=Int.natCast_nonneg _
    have b2:(k:Int)<(xs.length:Int):=by omega
    have b3:(k:Int)<(ys.length:Int):=by omega
    by_cases he:xs[k]=ys[k]
    ·have heb:(xs[k] != ys[k])=false:=by rw[he];simp
     have He:=Lib.hid he
     clear he
     go_wp2
     go_quiet (fail)
     go_wp2
     go_roundg (gk-1)
     case measure=>omega
     case rel=>
      refine⟨k+1,by omega,by go_num,?_,hu.drewN _⟩
      rw[List.take_succ_eq_append_getElem hlt,List.take_succ_eq_append_getElem hlt2,Hs.out,He.out]
    ·have heb:(xs[k] != ys[k])=true:=by simpa using he
     have He:=Lib.hid he
     clear he
     go_wp2
     go_quiet (fail)
     go_wp2
     go_ret
     have hne2:(xs==ys)=false:=by
      rw[beq_eq_false_iff_ne]
      rintro rfl
      exact He.out rfl
     exact⟨by rw[hne2];rfl,hu.drewN _⟩
   ·obtain rfl:k=xs.length:=by omega
    go_wp2
    go_ret
    have h2:=Hs.out
    rw[List.take_length,Hne.out,List.take_length]at h2
    exact⟨by rw[h2,beq_self_eq_true];rfl,hu⟩
 ·have hb:((xs.length:Int) != (ys.length:Int))=true:=by rw[bne_iff_ne];omega
  have hf:(xs==ys)=false:=by rw[beq_eq_false_iff_ne];rintro rfl;exact hne rfl
  have Hf:=Lib.hid hf
  clear hf
  go_enter Try.func12,Try.ntmps12
  go_wp2
  go_ret
  exact⟨by rw[Hf.out];rfl,Upd.refl _ _⟩
end Go.Proofs.Ytfcefnpnomlgbaa
