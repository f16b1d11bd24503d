/- strings.Builder, of the call's own: what WriteString and String do, and which blocks they touch. -/
import Derived.Test.YtbefgiboikfojaaGreatRcab
import Derived.Test.YtbefgiboikfojaaGreatRcac
namespace Go.Proofs.YtbefgiboikfojaaGreat
open Go.RowKit
set_option linter.unusedVariables false
set_option linter.unusedSimpArgs false
set_option maxRecDepth 100000
set_option maxHeartbeats 2000000
section
variable {P:Gw} {ops:Array Oper} {rest:List Oper} {o:Oper} {a:Act} {Q:Exit->Act->Gy->Prop}
theorem ZqU(W:Gy){t u ty e:Gx}{i:TypeInfo}(ht:P.underlying t=some (.slice e))(hu:P.underlying u=some .string)(hi:P.info? e=some i)(hz:i.zero=some (.int .u8 0))(aF:i.size=1)(dY:i.bytes=1)
  {base:Nat} {v:Gz} {n:Nat} {xs:Gl} (ae:W.ownsRow base e 1 v n xs) (s:Gm) (hb:n+s.size<=140737488355328) (aL:base<=W.heap.size):
  ∃v' w',(Builtin.append_ #[t,u] ty #[v,.string s]).run P W= .ok v' w'∧w'.ownsRow base e 1 v' (n+s.size) (xs++Lib.strCells s)∧Upd (Own v) W w'∧Grew W v v':=by
 have hxl:xs.length=n:=by simpa using ae.1
 obtain⟨v',w',hr,h2,h3,h4⟩:=Lib.run_append_own_string (P:=P) W base t u ty e i ht hu hi hz aF dY v n xs ae s (by unfold maxLen;omega) hb aL;refine⟨v',w',hr,h2,Upd.of_grown h3,?_⟩;rcases ae.2 with ⟨rfl,rfl⟩|⟨g,cap,cur,rfl,nh,hg,eA,il,ct,bg⟩
 ·by_cases hm:s.size=0
  ·rw[h4.2 ⟨rfl,hm⟩];exact .inl rfl
  ·rw[run_append_nil_string (P:=P) W t u ty e i (.int .u8 0) ht hu hi hz s (by omega) (by omega) (by rw[dY];omega)]at hr
   injection hr with e1 e2
   subst e1;exact .inr ⟨_,rfl,Nat.le_refl _⟩
 ·by_cases hroom:n+s.size<=cap
  ·rw[Lib.run_append_room_string (P:=P) W t u ty e i ht hu hi aF g n cap cur hg s hroom (by rw[ct];omega)]at hr
   injection hr with e1 e2
   subst e1;exact .inl rfl
  ·have qW:∀j u,xs[j]? =some u->W.cell? ((⟨g,0,none⟩:Addr).add j)=some u:=ae.cells (g:=g) rfl;rw[Lib.run_append_grow_string (P:=P) W t u ty e i (.int .u8 0) ht hu hi hz ⟨g,0,none⟩ n cap xs (by rw[aF];simpa using hxl) qW s (by omega) (by omega) (by rw[dY];exact growslice_fits (by omega) (by omega))]at hr
   injection hr with e1 e2
   subst e1;exact .inr ⟨_,rfl,Nat.le_refl _⟩
theorem Zwz{W:Gy}(cw:o.guard=none){sl x:Operand}{t u:Gx}(ho:o.op= .call {callee:= .builtin .append,args:= #[sl,x],argTypes:= #[t,u]})
  {e:Gx} {i:TypeInfo} (ht:P.underlying t=some (.slice e)) (hu:P.underlying u=some .string) (hi:P.info? e=some i) (hz:i.zero=some (.int .u8 0)) (aF:i.size=1) (dY:i.bytes=1)
  {base:Nat} {v:Gz} {n:Nat} {xs:Gl} (hs:a.eval sl=v) (ae:W.ownsRow base e 1 v n xs) (s:Gm) (hx:a.eval x= .string s) (hb:n+s.size<=140737488355328) (aL:base<=W.heap.size)
  (h:∀v' w',w'.ownsRow base e 1 v' (n+s.size) (xs++Lib.strCells s)->Upd (Own v) W w'->Grew W v v'->wpList P ops Q rest (a.put o.dst v') w'):wpList P ops Q (o::rest) a W:=by
 obtain⟨v',w',hr,h2,h3,h4⟩:=ZqU (P:=P) (ty:=o.type) W ht hu hi hz aF dY ae s hb aL;refine wpList_plain cw fun _ hK=>?_
 unfold Oper.wp execOp;simp only[ho,resolve,invoke,builtin,Sem.run_bind,Sem.run_pure,Result.andThen_ok,List.map_toArray,Gb,List.map_nil,hs,hx,hr];exact hK _ _ (h v' w' h2 h3 h4)
end
def Bld(w:Gy)(F:Gt)(b:Nat)(l:Gk):Prop:=
 ∃p v,(p= .pointer none∨p= .pointer (some ⟨b,0,none⟩))∧Blk w b 79 [p,v]∧w.ownsRow b 5 1 v l.length (Lib.byteCells l)∧v.ownBlock≠some b∧F b∧(∀i,v.ownBlock=some i->F i)
namespace Bld
variable {w w':Gy} {F G:Gt} {b:Nat} {l:Gk}
theorem lt(h:Bld w F b l):b<w.heap.size:=by
 obtain⟨p,v,_,hb,_⟩:=h;exact hb.lt
theorem upd{S:Gt}(h:Bld w F b l)(k:Upd S w w')(hn:∀i,F i->¬S i):Bld w' F b l:=by
 obtain⟨p,v,hp,hb,ho,hne,hF,hv⟩:=h;exact⟨p,v,hp,hb.upd k (hn _ hF),Za ho k (fun i hi=>hn _ (hv i hi)),hne,hF,hv⟩
theorem weak(h:Bld w F b l)(hg:∀i,i<w.heap.size->F i->G i):Bld w G b l:=by
 obtain⟨p,v,hp,hb,ho,hne,hF,hv⟩:=h;exact⟨p,v,hp,hb,ho,hne,hg _ hb.lt hF,fun i hi=>hg _ (ho.lt i hi).2 (hv i hi)⟩
theorem lt'(h:Bld w F b l):Bld w (fun i=>i<w.heap.size∧b<=i∧F i) b l:=by
 obtain⟨p,v,hp,hb,ho,hne,hF,hv⟩:=h;exact⟨p,v,hp,hb,ho,hne,⟨hb.lt,Nat.le_refl _,hF⟩,fun i hi=>⟨(ho.lt i hi).2,(ho.lt i hi).1,hv i hi⟩⟩
theorem fresh(w:Gy):Bld (w.alloc (.cells #[.pointer none,.slice none 0 0] 79)) (fun i=>i=w.heap.size) w.heap.size []:=
 ⟨_,_,.inl rfl,heap_alloc_new w _,Gf _ _ _ _,by simp[Value.ownBlock],rfl,fun i hi=>by simp[Value.ownBlock]at hi⟩
theorem is(h:Bld w F b l):Lib.IsBuilder 79 5 b b (Lib.byteCells l) w:=by
 obtain⟨p,v,hp,hb,ho,hne,hF,hv⟩:=h;rcases hp with rfl|rfl
 ·exact .inl ⟨Nat.le_refl _,v,hb,by rw[Lib.byteCells_length];exact ho,hne⟩
 ·exact .inr ⟨Nat.le_refl _,v,hb,by rw[Lib.byteCells_length];exact ho,hne⟩
end Bld
def ZvU(w:Gy)(F:Gt)(b:Nat)(l:Gk)(v:Gz)(e:Ending)(w':Gy):Prop:=
 e= .returned v∧∃F',Bld w' F' b l∧Upd F w w'∧∀i,F' i->F i∨w.heap.size<=i
theorem ZmH:(Tryz.prog.info? 79).map (·.size)=some 2:=by kernel_rfl
theorem ZmI:liesAt Tryz.prog Tryz.prog.depth 79 (2/Tryz.prog.cellsOf 79) 0 79 1=true:=by kernel_rfl
theorem ZuL(w:Gy)(F:Gt)(b:Nat)(l:Gk)(h:Bld w F b l):
  Calls Tryz.prog 62 #[.pointer (some ⟨b,0,none⟩)] w fun e w'=>e= .returned (.tuple #[])∧(∃v,Blk w' b 79 [.pointer (some ⟨b,0,none⟩),v]∧w'.ownsRow b 5 1 v l.length (Lib.byteCells l)∧v.ownBlock≠some b∧(∀i,v.ownBlock=some i->F i))∧Upd (One b) w w':=by
 obtain⟨p,v,hp,hb,ho,hne,hF,hv⟩:=h;obtain⟨j,hj,Bi⟩:=Option.map_eq_some_iff.1 ZmH;have c0:w.cell? ⟨b,0,none⟩=some p:=hb.cell 0;have f0:w.frozen? ⟨b,0,none⟩=false:=hb.free 0
 have xa:w.shape? b=some (79,2):=by
  have:=hb;unfold Blk at this;simp[World.shape?,this]
 rcases hp with rfl|rfl
 ·have Hb:=Qh hb;have Ho:=Qh ho;have ke:=Qh hne;have Hv:=Qh hv;clear hb ho hne hv;go_enter Tryz.func62,Tryz.ntmps62;go_wp2;rw[Lib.run_to_unsafe w ⟨b,0,none⟩ Tryz.underlying76 Tryz.underlying163 hj (by rw[Bi];decide) xa (Nat.zero_lt_succ 1)];simp only[Result.andThen];rw[Oper.upon_value];go_wp2;rw[run_callFunc_extern Tryz.func101 (by kernel_rfl) (by kernel_rfl) (by kernel_rfl) (e:=Extern.AbiNoEscape.same) (by kernel_rfl)];rw[Lib.run_noEscape];simp only[Result.andThen];rw[Oper.upon_value];go_wp2;rw[Lib.run_from_unsafe w ⟨b,0,none⟩ Tryz.underlying163 Tryz.underlying76 hj xa ZmI];simp only[Result.andThen];rw[Oper.upon_value];go_wp2
  go_end0
  have u:=(Gg (One b) w).setOne 0 (.pointer (some ⟨b,0,none⟩));exact⟨rfl,⟨v,Hb.out.set_ 0 _,Za Ho.out u (fun i hi e=>ke.out (by rw[hi,e])),ke.out,Hv.out⟩,u⟩
 ·have Hb:=Qh hb;have Ho:=Qh ho;have ke:=Qh hne;have Hv:=Qh hv;clear hb ho hne hv;go_enter Tryz.func62,Tryz.ntmps62;go_wp2;rw[Lib.run_neq_ptr_same w _ Tryz.underlying76 hj];go_wp2
  go_end0
  exact⟨rfl,⟨v,Hb.out,Ho.out,ke.out,Hv.out⟩,Gg _ _⟩
theorem Zhv(w:Gy)(F:Gt)(b:Nat)(l:Gk)(s:Gm)(h:Bld w F b l)(hlen:l.length+s.size<=140737488355328):
  Calls Tryz.prog 37 #[.pointer (some ⟨b,0,none⟩),.string s] w (ZvU w F b (l++s.data.toList) (.tuple #[Qi s.size,.nilIface])):=by
 obtain⟨i0,hi,gw,dj,dB⟩:=info_parts (show(Tryz.prog.info? 5).map (fun i=>(i.zero,i.size,i.bytes))=some (some (.int .u8 0),1,1) by kernel_rfl)
 have vR:F b:=by
  obtain⟨_,_,_,_,_,_,h,_⟩:=h;exact h
 have hlt:=h.lt;have aN:(Lib.byteCells l).length=l.length:=Lib.byteCells_length l;have Eg:=Qh aN;clear aN;go_enter Tryz.func37,Tryz.ntmps37;go_wp2_with fail;refine(ZuL _ F b l h).mono ?_;rintro e w1 ⟨rfl,⟨v,hbk,ae,hne,hv⟩,hu⟩;have ci:=hu.size;have c0:w1.cell? ⟨b,0,none⟩=some (.pointer (some ⟨b,0,none⟩)):=hbk.cell 0;have c1:w1.cell? ⟨b,1,none⟩=some v:=hbk.cell 1;have Hv:=Qh hv;have ke:=Qh hne;clear hv hne;go_wp2_with (at_builtin;refine Zwz rfl rfl Tryz.underlying77 Tryz.underlying9 hi gw dj dB rfl ae s rfl hlen (by omega) ?_);intro v' w2 eI hu2 lE;have hb2:=hbk.upd hu2 (fun e=>ke.out e);have d0:w2.cell? ⟨b,0,none⟩=some (.pointer (some ⟨b,0,none⟩)):=hb2.cell 0;have d1:w2.cell? ⟨b,1,none⟩=some v:=hb2.cell 1;have f1:w2.frozen? ⟨b,1,none⟩=false:=hb2.free 1;obtain⟨ao,cap,rfl⟩:=ZaQ eI;have Hg:=Qh lE;clear lE;go_wp2;go_ret2;have u3:=(Gg (One b) w2).setOne 1 (.slice ao (l.length+s.size) cap);have cF:(l++s.data.toList).length=l.length+s.size:=by rw[Fb,Array.length_toList];rfl
 have ji:Value.ownBlock (.slice ao (l.length+s.size) cap)≠some b:=fun e=>by
  rcases Hg.out with h|⟨k,h,hk⟩
  ·exact ke.out (h.symm.trans e)
  ·rw[e]at h
   cases h
   omega
 have aB:=Za eI u3 (fun i hi e=>ji (by rw[hi,e]));refine⟨rfl,fun i=>F i∨w.heap.size<=i,⟨_,_,.inr rfl,hb2.set_ 1 _,?_,ji,.inl vR,fun i hi=>?_⟩,?_,fun i hi=>hi⟩
 ·rw[cF];have:Lib.byteCells (l++s.data.toList)=Lib.byteCells l++Lib.strCells s:=by unfold Lib.byteCells Lib.strCells;rw[F4]
  rw[this];exact aB
 ·rcases Hg.out with h|⟨k,h,hk⟩
  ·exact .inl (Hv.out i (h.symm.trans hi))
  ·rw[hi]at h
   cases h
   exact .inr (by omega)
 ·refine Upd.trans_ (Upd.trans_ (hu.mono fun i _ e=>?_) hu2 fun i _ e=>Hv.out i e) (u3.mono fun i _ e=>?_) fun i _ e=>e
  ·cases e;exact vR
  ·cases e;exact vR
theorem Zmx(w:Gy)(F:Gt)(b:Nat)(l:Gk)(h:Bld w F b l):
  Calls Tryz.prog 38 #[.pointer (some ⟨b,0,none⟩)] w fun e w'=>e= .returned (.string ⟨l.toArray⟩)∧Below b w w':=Ztz b b l w h.is (by have:=h.lt;omega)
