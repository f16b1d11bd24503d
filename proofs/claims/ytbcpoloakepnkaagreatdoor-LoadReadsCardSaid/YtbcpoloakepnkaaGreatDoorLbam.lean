/- strings.Builder, of the call's own: what WriteString and String do, and which blocks they touch. -/
import Derived.Lib.Builder
import Derived.Shelf.Strings.Builder1
import Derived.Test.YtbcpoloakepnkaaGreatDoorProg
import Derived.Test.YtbcpoloakepnkaaGreatDoorLbab
import Derived.Test.YtbcpoloakepnkaaGreatDoorLbaf
namespace Go.Proofs.YtbcpoloakepnkaaGreatDoor
set_option linter.unusedVariables false
set_option linter.unusedSimpArgs false
section
open Go.RowKit
section
variable {P:Program} {ops:Array Oper} {rest:List Oper} {o:Oper} {a:Act} {Q:Exit→Act→World→Prop}
theorem Zcs (W:World) {t u ty e:TypeId} {i:TypeInfo} (ht:P.underlying t=some (.slice e)) (hu:P.underlying u=some .string) (hi:P.info? e=some i) (hz:i.zero=some (.int .u8 0)) (hsize:i.size=1) (hby:i.bytes=1)
  {base:Nat} {v:Value} {n:Nat} {xs:List Value} (hown:W.ownsRow base e 1 v n xs) (s:ByteArray) (hb:n+s.size≤140737488355328) (hbase:base≤W.heap.size):
  ∃v' w',(Builtin.append_ #[t,u] ty #[v,.string s]).run P W= .ok v' w'∧w'.ownsRow base e 1 v' (n+s.size) (xs++Lib.strCells s)∧Upd (Own v) W w'∧ZcO W v v':=by
 have hxl:xs.length=n:=by simpa using hown.1
 obtain⟨v',w',hr,h2,h3,h4⟩:=Lib.run_append_own_string (P:=P) W base t u ty e i ht hu hi hz hsize hby v n xs hown s (by unfold maxLen;omega) hb hbase;refine⟨v',w',hr,h2,Upd.of_grown h3,?_⟩;rcases hown.2 with ⟨rfl,rfl⟩|⟨g,cap,cur,rfl,hbg,hg,hnc,hcm,hcs,htake⟩
 ·by_cases hm:s.size=0
  ·rw[h4.2 ⟨rfl,hm⟩];exact .inl rfl
  ·rw[run_append_nil_string (P:=P) W t u ty e i (.int .u8 0) ht hu hi hz s (by omega) (by omega) (by rw[hby];omega)]at hr
   injection hr with e1 e2
   subst e1;exact .inr ⟨_,rfl,Nat.le_refl _⟩
 ·by_cases hroom:n+s.size≤cap
  ·rw[Lib.run_append_room_string (P:=P) W t u ty e i ht hu hi hsize g n cap cur hg s hroom (by rw[hcs];omega)]at hr
   injection hr with e1 e2
   subst e1;exact .inl rfl
  ·have holds:∀j u,xs[j]? =some u→W.cell? ((⟨g,0,none⟩:Addr).add j)=some u:=hown.cells (g:=g) rfl;rw[Lib.run_append_grow_string (P:=P) W t u ty e i (.int .u8 0) ht hu hi hz ⟨g,0,none⟩ n cap xs (by rw[hsize];simpa using hxl) holds s (by omega) (by omega) (by rw[hby];exact growslice_fits (by omega) (by omega))]at hr
   injection hr with e1 e2
   subst e1;exact .inr ⟨_,rfl,Nat.le_refl _⟩
theorem Zex {W:World} (hgd:o.guard=none) {sl x:Operand} {t u:TypeId} (ho:o.op= .call {callee:= .builtin .append,args:= #[sl,x],argTypes:= #[t,u]})
  {e:TypeId} {i:TypeInfo} (ht:P.underlying t=some (.slice e)) (hu:P.underlying u=some .string) (hi:P.info? e=some i) (hz:i.zero=some (.int .u8 0)) (hsize:i.size=1) (hby:i.bytes=1)
  {base:Nat} {v:Value} {n:Nat} {xs:List Value} (hs:a.eval sl=v) (hown:W.ownsRow base e 1 v n xs) (s:ByteArray) (hx:a.eval x= .string s) (hb:n+s.size≤140737488355328) (hbase:base≤W.heap.size)
  (h:∀v' w',w'.ownsRow base e 1 v' (n+s.size) (xs++Lib.strCells s)→Upd (Own v) W w'→ZcO W v v'→wpList P ops Q rest (a.put o.dst v') w'):wpList P ops Q (o::rest) a W:=by
 obtain⟨v',w',hr,h2,h3,h4⟩:=Zcs (P:=P) (ty:=o.type) W ht hu hi hz hsize hby hown s hb hbase;refine wpList_plain hgd fun _ hK=> ?_
 unfold Oper.wp execOp;simp only[ho,resolve,invoke,builtin,Sem.run_bind,Sem.run_pure,Result.andThen_ok,List.map_toArray,List.map_cons,List.map_nil,hs,hx,hr];exact hK _ _ (h v' w' h2 h3 h4)
end
def Bld (w:World) (F:Nat→Prop) (b:Nat) (l:List UInt8):Prop:=
 ∃p v,(p= .pointer none∨p= .pointer (some ⟨b,0,none⟩))∧Blk w b 55 [p,v]∧w.ownsRow b 5 1 v l.length (Lib.byteCells l)∧v.ownBlock≠some b∧F b∧(∀i,v.ownBlock=some i→F i)
namespace Bld
variable {w w':World} {F G:Nat→Prop} {b:Nat} {l:List UInt8}
theorem lt (h:Bld w F b l):b<w.heap.size:=by
 obtain⟨p,v,_,hb,_⟩:=h;exact hb.lt
theorem upd {S:Nat→Prop} (h:Bld w F b l) (k:Upd S w w') (hn:∀i,F i→¬S i):Bld w' F b l:=by
 obtain⟨p,v,hp,hb,ho,hne,hF,hv⟩:=h;exact⟨p,v,hp,hb.upd k (hn _ hF),Zh ho k (fun i hi=>hn _ (hv i hi)),hne,hF,hv⟩
theorem weak (h:Bld w F b l) (hg:∀i,i<w.heap.size→F i→G i):Bld w G b l:=by
 obtain⟨p,v,hp,hb,ho,hne,hF,hv⟩:=h;exact⟨p,v,hp,hb,ho,hne,hg _ hb.lt hF,fun i hi=>hg _ (ho.lt i hi).2 (hv i hi)⟩
theorem fresh (w:World):Bld (w.alloc (.cells #[.pointer none,.slice none 0 0] 55)) (fun i=>i=w.heap.size) w.heap.size []:=
 ⟨_,_,.inl rfl,heap_alloc_new w _,World.ownsRow_nil _ _ _ _,by simp[Value.ownBlock],rfl,fun i hi=>by simp[Value.ownBlock]at hi⟩
theorem is (h:Bld w F b l):Lib.IsBuilder 55 5 b b (Lib.byteCells l) w:=by
 obtain⟨p,v,hp,hb,ho,hne,hF,hv⟩:=h;rcases hp with rfl|rfl
 ·exact .inl ⟨Nat.le_refl _,v,hb,by rw[Lib.byteCells_length];exact ho,hne⟩
 ·exact .inr ⟨Nat.le_refl _,v,hb,by rw[Lib.byteCells_length];exact ho,hne⟩
end Bld
def ZcQ (w:World) (F:Nat→Prop) (b:Nat) (l:List UInt8) (v:Value) (e:Ending) (w':World):Prop:=
 e= .returned v∧∃F',Bld w' F' b l∧Upd F w w'∧∀i,F' i→F i∨w.heap.size≤i
theorem ZbH:(Tryz.prog.info? 55).map (·.size)=some 2:=by kernel_rfl
theorem ZbI:liesAt Tryz.prog Tryz.prog.depth 55 (2/Tryz.prog.cellsOf 55) 0 55 1=true:=by kernel_rfl
set_option maxHeartbeats 1000000 in
set_option maxRecDepth 100000 in
theorem Zcj (w:World) (F:Nat→Prop) (b:Nat) (l:List UInt8) (h:Bld w F b l):
  Calls Tryz.prog 44 #[.pointer (some ⟨b,0,none⟩)] w fun e w'=>e= .returned (.tuple #[])∧(∃v,Blk w' b 55 [.pointer (some ⟨b,0,none⟩),v]∧w'.ownsRow b 5 1 v l.length (Lib.byteCells l)∧v.ownBlock≠some b∧(∀i,v.ownBlock=some i→F i))∧Upd (One b) w w':=by
 obtain⟨p,v,hp,hb,ho,hne,hF,hv⟩:=h;obtain⟨j,hj,hjs⟩:=Option.map_eq_some_iff.1 ZbH;have c0:w.cell? ⟨b,0,none⟩=some p:=hb.cell 0;have f0:w.frozen? ⟨b,0,none⟩=false:=hb.free 0
 have hsh:w.shape? b=some (55,2):=by
  have:=hb;unfold Blk at this;simp[World.shape?,this]
 rcases hp with rfl|rfl
 ·have Hb:=Qh hb;have Ho:=Qh ho;have Hne:=Qh hne;have Hv:=Qh hv;clear hb ho hne hv
  go_enter Tryz.func44,Tryz.ntmps44
  go_wp2;rw[Lib.run_to_unsafe w ⟨b,0,none⟩ Tryz.underlying52 Tryz.underlying99 hj (by rw[hjs];decide) hsh (Nat.zero_lt_succ 1)];simp only[Result.andThen];rw[Oper.upon_value];go_wp2;rw[run_callFunc_extern Tryz.func59 (by kernel_rfl) (by kernel_rfl) (by kernel_rfl) (e:=Extern.AbiNoEscape.same) (by kernel_rfl)];rw[Lib.run_noEscape];simp only[Result.andThen];rw[Oper.upon_value];go_wp2;rw[Lib.run_from_unsafe w ⟨b,0,none⟩ Tryz.underlying99 Tryz.underlying52 hj hsh ZbI];simp only[Result.andThen];rw[Oper.upon_value];go_wp2
  go_end0
  have u:=(Upd.refl (One b) w).setOne 0 (.pointer (some ⟨b,0,none⟩));exact⟨rfl,⟨v,Hb.out.set_ 0 _,Zh Ho.out u (fun i hi e=>Hne.out (by rw[hi,e])),Hne.out,Hv.out⟩,u⟩
 ·have Hb:=Qh hb;have Ho:=Qh ho;have Hne:=Qh hne;have Hv:=Qh hv;clear hb ho hne hv
  go_enter Tryz.func44,Tryz.ntmps44
  go_wp2;rw[Lib.run_neq_ptr_same w _ Tryz.underlying52 hj];go_wp2
  go_end0
  exact⟨rfl,⟨v,Hb.out,Ho.out,Hne.out,Hv.out⟩,Upd.refl _ _⟩
set_option maxHeartbeats 2000000 in
set_option maxRecDepth 100000 in
theorem Zde (w:World) (F:Nat→Prop) (b:Nat) (l:List UInt8) (s:ByteArray) (h:Bld w F b l) (hlen:l.length+s.size≤140737488355328):
  Calls Tryz.prog 25 #[.pointer (some ⟨b,0,none⟩),.string s] w (ZcQ w F b (l++s.data.toList) (.tuple #[.int .i64 s.size,.nilIface])):=by
 obtain⟨i0,hi,hz0,hz1,hz2⟩:=info_parts (show(Tryz.prog.info? 5).map (fun i=>(i.zero,i.size,i.bytes))=some (some (.int .u8 0),1,1) by kernel_rfl)
 have hFb:F b:=by
  obtain⟨_,_,_,_,_,_,h,_⟩:=h;exact h
 have hlt:=h.lt;have hl2:(Lib.byteCells l).length=l.length:=Lib.byteCells_length l;have Hl2:=Qh hl2;clear hl2
 go_enter Tryz.func25,Tryz.ntmps25
 go_wp2_with fail
 refine(Zcj _ F b l h).mono ?_;rintro e w1 ⟨rfl,⟨v,hbk,hown,hne,hv⟩,hu⟩;have hsz:=hu.size;have c0:w1.cell? ⟨b,0,none⟩=some (.pointer (some ⟨b,0,none⟩)):=hbk.cell 0;have c1:w1.cell? ⟨b,1,none⟩=some v:=hbk.cell 1;have Hv:=Qh hv;have Hne:=Qh hne;clear hv hne
 go_wp2_with (at_builtin;refine Zex rfl rfl Tryz.underlying53 Tryz.underlying9 hi hz0 hz1 hz2 rfl hown s rfl hlen (by omega) ?_)
 intro v' w2 hown' hu2 hgrew;have hb2:=hbk.upd hu2 (fun e=>Hne.out e);have d0:w2.cell? ⟨b,0,none⟩=some (.pointer (some ⟨b,0,none⟩)):=hb2.cell 0;have d1:w2.cell? ⟨b,1,none⟩=some v:=hb2.cell 1;have f1:w2.frozen? ⟨b,1,none⟩=false:=hb2.free 1;obtain⟨ao,cap,rfl⟩:=Zbq hown';have Hg:=Qh hgrew;clear hgrew;go_wp2
 go_ret2
 have u3:=(Upd.refl (One b) w2).setOne 1 (.slice ao (l.length+s.size) cap);have hln:(l++s.data.toList).length=l.length+s.size:=by rw[List.length_append,Array.length_toList];rfl
 have hne':Value.ownBlock (.slice ao (l.length+s.size) cap)≠some b:=fun e=>by
  rcases Hg.out with h|⟨k,h,hk⟩
  ·exact Hne.out (h.symm.trans e)
  ·rw[e]at h
   cases h
   omega
 have hown3:=Zh hown' u3 (fun i hi e=>hne' (by rw[hi,e]));refine⟨rfl,fun i=>F i∨w.heap.size≤i,⟨_,_,.inr rfl,hb2.set_ 1 _,?_,hne',.inl hFb,fun i hi=> ?_⟩,?_,fun i hi=>hi⟩
 ·rw[hln];have:Lib.byteCells (l++s.data.toList)=Lib.byteCells l++Lib.strCells s:=by unfold Lib.byteCells Lib.strCells;rw[List.map_append]
  rw[this];exact hown3
 ·rcases Hg.out with h|⟨k,h,hk⟩
  ·exact .inl (Hv.out i (h.symm.trans hi))
  ·rw[hi]at h
   cases h
   exact .inr (by omega)
 ·refine Upd.trans_ (Upd.trans_ (hu.mono fun i _ e=> ?_) hu2 fun i _ e=>Hv.out i e) (u3.mono fun i _ e=> ?_) fun i _ e=>e
  ·cases e;exact hFb
  ·cases e;exact hFb
theorem ZcK (w:World) (F:Nat→Prop) (b:Nat) (l:List UInt8) (h:Bld w F b l):
  Calls Tryz.prog 26 #[.pointer (some ⟨b,0,none⟩)] w fun e w'=>e= .returned (.string ⟨l.toArray⟩)∧Below b w w':=Zdf b b l w h.is (by have:=h.lt;omega)
end
end Go.Proofs.YtbcpoloakepnkaaGreatDoor
