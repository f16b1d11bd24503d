/- Digraphs: an end put among others. -/
import Derived.Lib.Overlaps
import Derived.Test.YtbefgiboikfojaaGreatRcak
import Derived.Test.YtbefgiboikfojaaGreatRcan
namespace Go.Proofs.YtbefgiboikfojaaGreat
open Go.RowKit
set_option linter.unusedVariables false
set_option linter.unusedSimpArgs false
set_option maxRecDepth 100000
set_option maxHeartbeats 2000000
theorem Zat:SlT Tryz.prog 206 203 3 24:=SlT.mk_ Tryz.underlying206 (z:= .agg #[Qi 0,Qi 0,Qi 0]) (by kernel_rfl) rfl (by omega)
theorem ZkT{l:Gn}:∀r∈l.map DEnd.cells,r.length=3:=fun r hr=>by
 obtain⟨e,_,rfl⟩:=Gc.1 hr;rfl
theorem ZkS{l:Gn}:∀v∈(l.map DEnd.cells).flatten,v.oneCell'=true:=fun v hv=>by
 obtain⟨r,hr,h⟩:=List.mem_flatten.1 hv;obtain⟨e,_,rfl⟩:=Gc.1 hr;simp only[DEnd.cells,F9,Ft,or_false]at h;rcases h with rfl|rfl|rfl<;>rfl
theorem Zbh(l:Gn):(l.map DEnd.cells).flatten.length=l.length*3:=by
 have:=ZeL (rows:=l.map DEnd.cells) (size:=3) ZkT
 rwa [F6]at this
theorem Zoz(l:Gn)(i:Nat)(hi:i<=l.length):(l.map DEnd.cells).flatten.take (i*3)=((l.take i).map DEnd.cells).flatten:=by
 conv=>lhs;rw[<-List.take_append_drop i l,F4,List.flatten_append]
 rw[Eu (by rw[Zbh,Fl,Nat.min_eq_left hi];omega),List.take_of_length_le (by rw[Zbh,Fl,Nat.min_eq_left hi];omega)]
theorem ZoA(l:Gn)(i:Nat)(hi:i<=l.length):(l.map DEnd.cells).flatten.drop (i*3)=((l.drop i).map DEnd.cells).flatten:=by
 conv=>lhs;rw[<-List.take_append_drop i l,F4,List.flatten_append]
 rw[List.drop_append,List.drop_of_length_le (by rw[Zbh,Fl,Nat.min_eq_left hi];omega),Zbh,Fl,Nat.min_eq_left hi,Nat.sub_self];rfl
theorem Zc0(g o j:Nat):(⟨g,o,none⟩:Addr).add j=⟨g,o+j,none⟩:=by unfold Addr.add;split<;>simp_all
theorem dov{W:Gy}{vb g:Nat}{c1 c2:Gl}{t1 t2:Gx}(h1:Blk W vb t1 c1)(h2:Blk W g t2 c2)(hne:vb≠g)(hc:c2≠[])(o la ca lb cb:Nat):
  (callFunc 202 #[.slice (some ⟨vb,0,none⟩) la ca,.slice (some ⟨g,o,none⟩) lb cb]).run Tryz.prog W= .ok (.value (.bool false)) W:=by
 rw[run_callFunc_extern Tryz.func202 (by kernel_rfl) (by kernel_rfl) (by kernel_rfl) (e:=Extern.SlicesOverlaps.overlaps #[206,206] #[4]) (by kernel_rfl)];unfold Blk at h1 h2
 rw[Lib.run_overlaps_apart W 206 4 203 Tryz.underlying206 3 Tryz.sizeOf203 ⟨vb,0,none⟩ ⟨g,o,none⟩ la ca lb cb hne t1 t2 c1.length c2.length
  (by simp[World.shape?,h1]) (by simp[World.shape?,h2]) (by intro e;exact hc (Et e)) (frozen_of_row W vb 0 _ t1 h1) (frozen_of_row W vb _ _ t1 h1)]
 rfl
def ZuQ(w:Gy)(base:Nat)(v:Gz)(l:Gn)(e:Ending)(w':Gy):Prop:=
 ∃A' c',e= .returned (.slice A' l.length c')∧w'.ownsRow base 203 3 (.slice A' l.length c') l.length (l.map DEnd.cells).flatten∧Upd (Own v) w w'∧Grew w v (.slice A' l.length c')
def Zcu(l:Gn)(i:Nat)(x:DEnd):Gn:=l.take i++[x]++l.drop i
theorem Zdn(l:Gn)(i:Nat)(x:DEnd)(hi:i<=l.length):(Zcu l i x).length=l.length+1:=by
 unfold Zcu;simp;omega
theorem Zl8{R1 R2:Gl}(l:Gn)(i:Nat)(x:DEnd)(hi:i<=l.length){cur:Gl}(h:cur=((l.take i).map DEnd.cells).flatten++x.cells++((l.drop i).map DEnd.cells).flatten++R2):
  cur.take ((l.length+1)*3)=((Zcu l i x).map DEnd.cells).flatten:=by
 subst h;have e:((Zcu l i x).map DEnd.cells).flatten=((l.take i).map DEnd.cells).flatten++x.cells++((l.drop i).map DEnd.cells).flatten:=by unfold Zcu;simp
 rw[<-e,Eu (by rw[Zbh,Zdn l i x hi];omega),List.take_of_length_le (by rw[Zbh,Zdn l i x hi];omega)]
theorem Zlb(g c s:Nat):ZcT (some ⟨g,0,none⟩) c 0 s=some ⟨g,0,none⟩:=by unfold ZcT;split<;>simp[Addr.add]
theorem Zgf{g c i s:Nat}(h:¬c=i):ZcT (some ⟨g,0,none⟩) c i s=some ⟨g,i*s,none⟩:=by unfold ZcT;rw[if_neg h];simp[Zc0]
theorem ZqR{cur cs E:Gl}{i n c:Nat}(hi:i<n)(hc:n+1<=c)(hl:cur.length=c*3)(ct:cs=(cur.take (n*3)).drop (i*3))(hE:E.length=3):
  (cur.take ((i+1)*3)++cs++cur.drop ((i+1)*3+cs.length)).take (i*3)++E++(cur.take ((i+1)*3)++cs++cur.drop ((i+1)*3+cs.length)).drop (i*3+E.length)=cur.take (i*3)++E++cs++cur.drop ((i+1)*3+cs.length):=by
 have h1:(cur.take ((i+1)*3)).length=(i+1)*3:=by rw[Fl,Nat.min_eq_left (by omega)]
 rw[Fg (cur.take ((i+1)*3)),Eu (by omega),List.take_take,Nat.min_eq_left (by omega),List.drop_append,List.drop_of_length_le (by omega),h1,show i*3+E.length-(i+1)*3=0 by omega];simp
theorem ZrO{A Z cs E:Gl}{i:Nat}(hA:A.length=i*3)(hE:E.length=3)(hZ:3<=Z.length):
  ((A++Z).take (i*3)++E++(A++Z).drop (i*3+E.length)).take ((i+1)*3)++cs++((A++Z).take (i*3)++E++(A++Z).drop (i*3+E.length)).drop ((i+1)*3+cs.length)=A++E++cs++((A++Z).drop (i*3+3)).drop cs.length:=by
 have h1:(A++Z).take (i*3)=A:=by rw[<-hA];simp
 have h2:(A++E).length=(i+1)*3:=by rw[Fb];omega
 rw[h1,hE,Eu (by omega),List.take_of_length_le (by omega),List.drop_append,List.drop_of_length_le (by omega),h2,show(i+1)*3+cs.length-(i+1)*3=cs.length by omega];simp
theorem Zmr(x:DEnd):∀v∈x.cells,v.oneCell'=true:=by
 intro v hv;simp only[DEnd.cells,F9,Ft,or_false]at hv;rcases hv with rfl|rfl|rfl<;>rfl
theorem Zws(w:Gy)(base:Nat)(A:OA)(c:Nat)(l:Gn)(i:Nat)(x:DEnd)(vb:Nat)(ae:w.ownsRow base 203 3 (.slice A l.length c) l.length (l.map DEnd.cells).flatten)
  (hv:Blk w vb 203 x.cells) (jy:¬Own (.slice A l.length c) vb) (hi:i<=l.length) (hl:l.length<=100000) (aL:base<=w.heap.size):
  Calls Tryz.prog 168 #[.slice A l.length c,Qi (i:Int),.slice (some ⟨vb,0,none⟩) 1 1] w (ZuQ w base (.slice A l.length c) (Zcu l i x)):=by
 have dp:=Zdn l i x hi;have iE:=Znj ae
 by_cases hin:i=l.length
 ·have hcut:=fun W=>Zb8 W Zat A l.length c i (by omega)
  have aO:((i:Int)==(l.length:Int))=true:=by rw[beq_iff_eq];omega
  have b0:(0:Int)<=(i:Int):=Qn _;have b1:(i:Int)<=(l.length:Int):=by omega
  have mn:((Zcu l i x).map DEnd.cells).flatten=(l.map DEnd.cells).flatten++x.cells:=by
   unfold Zcu;rw[hin,Fj,Fq];simp
  have HF:=Qh mn;have HI:=Qh dp;have cE:Src w (some ⟨vb,0,none⟩) 1 3 x.cells:=⟨rfl,fun _=>⟨⟨vb,0,none⟩,rfl,fun j v hj=>by rw[Zc0,Nat.zero_add,hv.cell];exact hj⟩⟩;have HS:=Qh cE;have HO:=Qh ae;clear hin mn dp cE;go_enter Tryz.func168,Tryz.ntmps168;go_wp2_with (at_builtin;refine Zgk rfl rfl Zat (v:= .slice A l.length c) (n:=l.length) (m:=1) (news:=x.cells) rfl rfl HO.out HS.out (by intro v hv;simp only[DEnd.cells,F9,Ft,or_false]at hv;rcases hv with rfl|rfl|rfl<;>rfl) (by omega) (by omega) aL ?_);intro v4 w4 ar hu4 cQ;obtain⟨A4,c4,rfl⟩:=ZaQ ar;go_wp2;go_ret;refine⟨A4,c4,by rw[HI.out];rfl,?_,hu4,?_⟩
  ·rw[HI.out,HF.out];exact ar
  ·rw[HI.out];exact cQ
 ·have hi2:i<l.length:=by omega
  have a8:0<l.length:=by omega
  obtain⟨g,cur,rfl,mF,hB,eA,cO,iM,il⟩:=ZjF ae a8;have oL:vb≠g:=fun e=>jy (by subst e;rfl)
  have ct:((l.drop i).map DEnd.cells).flatten=(cur.take (l.length*3)).drop (i*3):=by rw[iM,ZoA l i hi]
  have k9:((l.drop i).map DEnd.cells).flatten.length=(l.length-i)*3:=by rw[Zbh,Fo]
  have bQ:cur.take (i*3)=((l.take i).map DEnd.cells).flatten:=by rw[<-Zoz l i hi,<-iM,List.take_take,Nat.min_eq_left (by omega)]
  have aO:((i:Int)==(l.length:Int))=false:=by rw[beq_eq_false_iff_ne];omega
  have b0:(0:Int)<=(i:Int):=Qn _;have b1:(i:Int)<(l.length:Int):=by omega
  have b2:(l.length:Int)<=100000:=by omega
  have b3:(l.length:Int)<=(c:Int):=by omega
  have rW:¬c=i:=by omega
  have k1:∀W,(Instr.slice 206 (.slice (some ⟨g,0,none⟩) l.length c) (some (Qi (i:Int))) none none).run Tryz.prog W= .ok (.slice (some ⟨g,i*3,none⟩) (l.length-i) (c-i)) W:=fun W=>by
   have:=Zb8 W Zat (some ⟨g,0,none⟩) l.length c i (by omega)
   rwa [Zgf rW]at this
  have gQ:∀W:Gy,W.heap[g]? =w.heap[g]?->∀(j:Nat) v,((l.drop i).map DEnd.cells).flatten[j]? =some v->W.cell? ((⟨g,i*3,none⟩:Addr).add j)=some v:=fun W hW j v hj=>by
   have uX:Blk W g 203 cur:=hW.trans hB;rw[Zc0,uX.cell];rw[ct,List.getElem?_drop,List.getElem?_take]at hj
   split at hj
   ·exact hj
   ·cases hj
  have gS:∀W:Gy,W.heap[vb]? =w.heap[vb]?->∀(j:Nat) v,x.cells[j]? =some v->W.cell? ((⟨vb,0,none⟩:Addr).add j)=some v:=fun W hW j v hj=>by
   have uX:Blk W vb 203 x.cells:=hW.trans hv;rw[Zc0,Nat.zero_add,uX.cell];exact hj
  by_cases hroom:l.length+1<=c
  ·have tV:¬c=i+1:=by omega
   have b4:¬(c:Int)<(l.length:Int)+1:=by omega
   have k2:∀W,(Instr.slice 206 (.slice (some ⟨g,0,none⟩) l.length c) none (some (Qi ((l.length:Int)+1))) none).run Tryz.prog W= .ok (.slice (some ⟨g,0,none⟩) (l.length+1) c) W:=fun W=>by
    have:=Zd6 W Zat (some ⟨g,0,none⟩) l.length c (l.length+1) hroom
    rwa [Zlb]at this
   have k3:∀W,(Instr.slice 206 (.slice (some ⟨g,0,none⟩) (l.length+1) c) (some (Qi ((i:Int)+1))) none none).run Tryz.prog W= .ok (.slice (some ⟨g,(i+1)*3,none⟩) (l.length-i) (c-(i+1))) W:=fun W=>by
    have:=Zb8 W Zat (some ⟨g,0,none⟩) (l.length+1) c (i+1) (by omega)
    rwa [Zgf tV,show l.length+1-(i+1)=l.length-i by omega]at this
   have k4:∀W,(Instr.slice 206 (.slice (some ⟨g,0,none⟩) (l.length+1) c) (some (Qi (i:Int))) none none).run Tryz.prog W= .ok (.slice (some ⟨g,i*3,none⟩) (l.length+1-i) (c-i)) W:=fun W=>by
    have:=Zb8 W Zat (some ⟨g,0,none⟩) (l.length+1) c i (by omega)
    rwa [Zgf rW]at this
   have eC:=dov hv hB oL (by intro e;rw[e]at cO;simp at cO;omega) ((i+1)*3) 1 1 (l.length-i) (c-(i+1));have HS:=Qh gQ;have xB:=Qh gS;have HB:=Qh hB;have fF:=Qh k9;have Bf:=Qh (ZqR (E:=x.cells) hi2 hroom cO ct rfl);have p7:=Qh bQ;have HI:=Qh dp;have oI:=Qh cO;have Dr:=Qh eC;have gP:=Qh hv.lt;clear gQ gS ct k9 bQ dp iM cO ae hv jy hB;go_enter Tryz.func168,Tryz.ntmps168;have eC:=Dr.out;have b5:IntKind.i64.wrap ((i:Int)+1)=(i:Int)+1:=IntWalk.i64_in _ (by omega);have b6:(0:Int)<=(i:Int)+1:=by omega
   go_wp2;refine wpS (fun w'=>Upd (One g) w w') ?_ fun jH=>?_
   ·(first|exact(Gg _ _).drew|exact aY)
   (iterate 8 refine wpF ?_);refine wpZ 8 rfl fun K hK=>?_
   (first
  |(refine ZfI rfl rfl Zat (g:=g) (off:=(i+1)*3) (n:=l.length-i) (cs:=((l.drop i).map DEnd.cells).flatten) rfl rfl (show Blk _ g 203 cur from HB.out) (by simp only[Nat.min_def];split<;>omega) fF.out (HS.out _ rfl) (by rw[fF.out,oI.out];omega) ZkS ?_;intro w5 l6 hu5;have aY:Upd (One g) w w5:=hu5.of_drew))
   refine hK.out _ _ ?_ fun jH=>?_
   ·(first|exact(Gg _ _).drew|exact aY)
   try simp only[Qa]
   refine wpD (Gd ?_);have ff:=Qh aY;have gJ:=Qh l6;clear jH aY hu5 l6 eC b5;go_wp2_with (refine ZhQ rfl rfl Zat (g:=g) (off:=i*3) (n:=1) (cs:=x.cells) rfl rfl gJ.out (by simp only[Nat.min_def];split<;>omega) rfl (xB.out _ (ff.out.block vb gP.out oL)) (by simp only[Fb,Fl,Fo,fF.out,oI.out];rw[Nat.min_eq_left (by omega)];show i*3+3<=_;omega) (Zmr x) ?_;intro w6 iD hu6);rw[Bf.out]at iD;have de:=ff.out.trans hu6;go_ret
   have av:=ZdB (size:=3) (n:=l.length+1) (xs:=((Zcu l i x).map DEnd.cells).flatten) iD mF hroom (by
    simp only[Fb,Fl,Fo,fF.out,oI.out];rw[Nat.min_eq_left (by omega)]
    show i*3+3+_+_=_
    omega) (by rw[p7.out];exact Zl8 (R1:=[]) l i x hi rfl) il (by rw[Zbh,HI.out])
   refine⟨some ⟨g,0,none⟩,c,by rw[HI.out];rfl,?_,de.mono (fun j _ e=>by cases e;rfl),.inl rfl⟩;rw[HI.out];exact av
  ·have b4:(c:Int)<(l.length:Int)+1:=by omega
   have hk:((l.length:Int)+1-(i:Int))=((l.length+1-i:Nat):Int):=by omega
   have k5:∀W,(Instr.slice 206 (.slice (some ⟨g,0,none⟩) l.length c) none (some (Qi (i:Int))) none).run Tryz.prog W= .ok (.slice (some ⟨g,0,none⟩) i c) W:=fun W=>by
    have:=Zd6 W Zat (some ⟨g,0,none⟩) l.length c i (by omega)
    rwa [Zlb]at this
   have hold:∀(j:Nat) v,((l.take i).map DEnd.cells).flatten[j]? =some v->w.cell? ⟨g,j,none⟩=some v:=fun j v hj=>by
    rw[hB.cell];rw[<-bQ,List.getElem?_take]at hj
    split at hj
    ·exact hj
    ·cases hj
   have y7:((l.take i).map DEnd.cells).flatten.length=i*3:=by rw[Zbh,Fl,Nat.min_eq_left (by omega)]
   have HS:=Qh gQ;have xB:=Qh gS;have nR:=Qh hB.lt;have fF:=Qh k9;have HI:=Qh dp;have wV:=Qh hold;have rP:=Qh y7;have gP:=Qh hv.lt;have HK:=Qh (show i+(l.length+1-i)=l.length+1 by omega);clear gQ gS ct k9 bQ dp iM cO ae hv jy hB hold y7;go_enter Tryz.func168,Tryz.ntmps168
   have k6:∀(c':Nat) W,l.length+1<=c'->(Instr.slice 206 (.slice (some ⟨w.heap.size,0,none⟩) (l.length+1) c') (some (Qi (i:Int))) none none).run Tryz.prog W= .ok (.slice (some ⟨w.heap.size,i*3,none⟩) (l.length+1-i) (c'-i)) W:=fun c' W hc'=>by
    have:=Zb8 W Zat (some ⟨w.heap.size,0,none⟩) (l.length+1) c' i (by omega)
    rwa [Zgf (by omega)]at this
   have k7:∀(c':Nat) W,l.length+1<=c'->(Instr.slice 206 (.slice (some ⟨w.heap.size,0,none⟩) (l.length+1) c') (some (Qi ((i:Int)+1))) none none).run Tryz.prog W= .ok (.slice (some ⟨w.heap.size,(i+1)*3,none⟩) (l.length-i) (c'-(i+1))) W:=fun c' W hc'=>by
    have:=Zb8 W Zat (some ⟨w.heap.size,0,none⟩) (l.length+1) c' (i+1) (by omega)
    rwa [Zgf (by omega),show l.length+1-(i+1)=l.length-i by omega]at this
   have b5:IntKind.i64.wrap ((i:Int)+1)=(i:Int)+1:=IntWalk.i64_in _ (by omega);have b6:(0:Int)<=(i:Int)+1:=by omega
   have Eh:i+(l.length+1-i)=l.length+1:=HK.out
   go_wp2_with (first
    |(at_builtin;refine ZqF rfl rfl Zat Tryz.underlying3 (g:=g) (n:=i) (c:=c) (k:=l.length+1-i) rfl rfl rP.out wV.out (by omega) (by omega) (by omega) (by omega) ?_;intro c5 zs w5 xZ iA l6 pF hu5;rw[HK.out]at xZ;have gJ:=Qh l6;have sr:=Qh pF;clear l6 pF)
    |(refine ZhQ rfl rfl Zat (g:=w.heap.size) (off:=i*3) (n:=1) (cs:=x.cells) rfl rfl gJ.out (by simp only[Nat.min_def];split<;>omega) rfl (xB.out _ (hu5.block vb gP.out id)) (by rw[sr.out];show i*3+3<=_;omega) (Zmr x) ?_;intro w6 iD hu6;have fE:=Qh iD;clear iD))
   have km:=HS.out w6 ((hu6.block g (Fe nR.out hu5.size) (by intro e;have:=nR.out;cases e;omega)).trans (hu5.block g nR.out id));have wd:=Qh km
   have lp:((((l.take i).map DEnd.cells).flatten++zs).take (i*3)++x.cells++(((l.take i).map DEnd.cells).flatten++zs).drop (i*3+x.cells.length)).length=c5*3:=by
    have h5:=sr.out;simp only[Fb,Fl,Fo]at h5 ⊢
    show _+3+(_-(i*3+3))=_
    omega
   have xH:=Qh lp;clear km lp;refine wpS (fun w'=>Upd (One w.heap.size) w6 w') ?_ fun jH=>?_
   ·(first|exact(Gg _ _).drew|exact fp)
   (iterate 8 refine wpF ?_);refine wpZ 8 rfl fun K hK=>?_
   (first
  |(refine ZfI rfl rfl Zat (g:=w.heap.size) (off:=(i+1)*3) (n:=l.length-i) (cs:=((l.drop i).map DEnd.cells).flatten) rfl rfl (show Blk _ w.heap.size 203 _ from fE.out) (by simp only[Nat.min_def];split<;>omega) fF.out wd.out (by rw[xH.out,fF.out];omega) ZkS ?_;intro w7 jI hu7;have fp:Upd (One w.heap.size) w6 w7:=hu7.of_drew))
   refine hK.out _ _ ?_ fun jH=>?_
   ·(first|exact(Gg _ _).drew|exact fp)
   try simp only[Qa]
   refine wpD (Gd ?_);have rC:=jI
   have x9:3<=zs.length:=by
    have h5:=sr.out;rw[Fb,rP.out]at h5;omega
   have Af:=xH.out;rw[ZrO rP.out rfl x9]at rC;have hU:=(hu5.mono (T:=One w.heap.size) (fun _ _ e=>e.elim)).trans (hu6.trans fp);have H7:=Qh (And.intro rC hU);clear jI rC hu7 hU jH fp k6 k7 hu6 hu5;go_wp2;go_ret
   have ii:=ZdB (size:=3) (n:=l.length+1) (xs:=((Zcu l i x).map DEnd.cells).flatten) H7.out.1 aL xZ (by
    have h5:=sr.out;simp only[Fb,Fo,fF.out,rP.out]at h5 ⊢
    show i*3+3+_+_=_
    omega) (Zl8 (R1:=[]) l i x hi rfl) iA (by rw[Zbh,HI.out])
   refine⟨some ⟨w.heap.size,0,none⟩,c5,by rw[HI.out];rfl,?_,H7.out.2.trans_ (Gg _ _) (fun _ _ e=>e) |>.mono (fun j hj e=>by cases e;omega),.inr ⟨_,rfl,Nat.le_refl _⟩⟩;rw[HI.out];exact ii
/- Digraphs:an end taken out from among others. -/
def Zla(l:Gn)(i:Nat):Gn:=l.take i++l.drop (i+1)
/- Digraphs:ends put in and taken out. -/
theorem Ze9{w:Gy}{base:Nat}{A:OA}{c:Nat}{l:Gn}(h:w.ownsRow base 203 3 (.slice A l.length c) l.length (l.map DEnd.cells).flatten):DEnds (Own (.slice A l.length c)) w A l:=
 Recs.of_own (n:=l.length) (c:=c) ZkT (by omega) h
theorem Grew.older{w W:Gy}{v v':Gz}(h:Grew W v v')(k:w.heap.size<=W.heap.size):Grew w v v':=by
 rcases h with h|⟨j,h1,h2⟩
 ·exact .inl h
 ·exact .inr ⟨j,h1,Nat.le_trans k h2⟩
theorem Zuz(w:Gy)(base:Nat)(A:OA)(c:Nat)(l:Gn)(e:DEnd)(p:Nat)(ae:w.ownsRow base 203 3 (.slice A l.length c) l.length (l.map DEnd.cells).flatten)(hp:Zld l e p)(hl:l.length<=100000)(aL:base<=w.heap.size):
  Calls Tryz.prog 140 #[.slice A l.length c,.agg e.cells.toArray] w (ZuQ w base (.slice A l.length c) (Zcu l p e)):=by
 have u0:=(Gg No w).alloc (.cells e.cells.toArray 203);have bE:=Qh (Gh w 203 e.cells);have hf:=Qh (Zsz _ (w.alloc (.cells e.cells.toArray 203)) A c l e p ((Ze9 ae).upd u0 Qo) (by omega) hp);have cV:=hp.1;have HO:=Qh ae;have U0:=Qh u0;obtain⟨ek,el,en⟩:=e;unfold DEnd.cells at*;clear ae hp u0;go_enter Tryz.func140,Tryz.ntmps140;go_wp2_with fail;refine Ck hf.out fun w1 hu1=>?_;have b1:=bE.out.upd hu1 id;obtain⟨c0,c1,c2⟩:=b1.c3;have hU:=U0.out.trans hu1;have uV:=hU.alloc (.cells #[Qi ek,Qi el,Qi en] 203);have am:=Za HO.out uV Qo
 have jy:¬Own (.slice A l.length c) w1.heap.size:=fun e=>by
  have h1:=(HO.out.lt _ e).2;have h2:=hU.size;omega
 have hd:=Qh (Zws (w1.alloc (.cells #[Qi ek,Qi el,Qi en] 203)) base A c l p ⟨ek,el,en⟩ w1.heap.size am (Gh w1 203 [Qi ek,Qi el,Qi en]) jy cV hl (Nat.le_trans aL uV.size));have UV:=Qh uV;clear b1 hu1 hU uV am jy;go_wp2_with fail;refine(hd.out).mono ?_;rintro e w2 ⟨A4,c4,rfl,cU,hu4,cQ⟩;have H4:=Qh (And.intro cU (And.intro hu4 cQ));clear cU hu4 cQ;go_wp2;go_ret;exact⟨A4,c4,rfl,H4.out.1,(UV.out.mono (fun _ _ e=>e.elim)).trans H4.out.2.1,H4.out.2.2.older UV.out.size⟩
/-! rising ends -/
def ZbO(l:Gn):Prop:=l.Pairwise fun a b=>ZaU a b<0
theorem ZjT{a b:Int}:ZD a b<0↔a<b:=by unfold ZD;split<;>(try split)<;>omega
theorem cmpI_eq{a b:Int}:ZD a b=0↔a=b:=by unfold ZD;split<;>(try split)<;>omega
theorem Zht(a b:DEnd):ZaU a b<0↔a.kind<b.kind∨(a.kind=b.kind∧(a.label<b.label∨(a.label=b.label∧a.node<b.node))):=by
 unfold ZaU;simp only[Zh3]
 by_cases h1:a.kind=b.kind
 ·rw[if_pos (cmpI_eq.2 h1)]
  by_cases h2:a.label=b.label
  ·rw[if_pos (cmpI_eq.2 h2)]
   by_cases h3:a.node=b.node
   ·rw[if_pos (cmpI_eq.2 h3)];simp[orI,h1,h2,h3]
   ·rw[if_neg (fun e=>h3 (cmpI_eq.1 e)),ZjT];simp[h1,h2]
  ·rw[if_neg (fun e=>h2 (cmpI_eq.1 e)),ZjT];simp[h1,h2]
 ·rw[if_neg (fun e=>h1 (cmpI_eq.1 e)),ZjT];simp[h1]
theorem Zhu(a b:DEnd):ZaU a b=0↔a=b:=by
 obtain⟨ak,al,an⟩:=a;obtain⟨bk,bl,bn⟩:=b;unfold ZaU;simp only[Zh3,DEnd.mk.injEq]
 by_cases h1:ak=bk
 ·rw[if_pos (cmpI_eq.2 h1)]
  by_cases h2:al=bl
  ·rw[if_pos (cmpI_eq.2 h2)]
   by_cases h3:an=bn
   ·rw[if_pos (cmpI_eq.2 h3)];simp[orI,h1,h2,h3]
   ·rw[if_neg (fun e=>h3 (cmpI_eq.1 e)),cmpI_eq];simp[h1,h2]
  ·rw[if_neg (fun e=>h2 (cmpI_eq.1 e)),cmpI_eq];simp[h2]
 ·rw[if_neg (fun e=>h1 (cmpI_eq.1 e)),cmpI_eq];simp[h1]
theorem Zjo{a b c:DEnd}(h:ZaU a b<0)(k:ZaU b c<0):ZaU a c<0:=by
 rw[Zht]at*;omega
def Z9(l:Gn)(e:DEnd):Nat:=l.countP fun x=>decide (ZaU x e<0)
theorem ZcM{l:Gn}(h:ZbO l)(e:DEnd):Zld l e (Z9 l e):=by
 refine⟨List.countP_le_length,?_⟩
 induction l with
 |nil=>intro k hk;simp at hk
 |cons a l ih=>
  have h':=Fd.1 h;intro k hk;unfold Z9;rw[Fi]
  by_cases ha:ZaU a e<0
  ·rw[if_pos (by simpa using ha)]
   cases k with
   |zero=>simp only[List.getElem_cons_zero,ha,true_iff];omega
   |succ k=>
    rw[List.getElem_cons_succ,ih h'.2 k (by simpa using hk)];unfold Z9;omega
  ·rw[if_neg (by simpa using ha)]
   have h0:l.countP (fun x=>decide (ZaU x e<0))=0:=by
    rw[List.countP_eq_zero];intro x hx;simp only[Ff];exact fun hxe=>ha (Zjo (h'.1 x hx) hxe)
   rw[h0]
   cases k with
   |zero=>simp only[List.getElem_cons_zero,ha,false_iff];omega
   |succ k=>
    rw[List.getElem_cons_succ]
    constructor
    ·intro hx;exact absurd (Zjo (h'.1 _ (Fr _)) hx) ha
    ·intro hx;omega
theorem Zib{l:Gn}(h:ZbO l)(e:DEnd):Zf3 l e (Z9 l e)=decide (e∈l):=by
 have hp:=ZcM h e;rw[Bool.eq_iff_iff,Ff];unfold Zf3
 constructor
 ·intro hi
  split at hi
  ·rename_i x hx
   have:=(Zhu x e).1 (by simpa using hi);subst this;exact E6 hx
  ·cases hi
 ·intro hm;obtain⟨k,hk,rfl⟩:=E8.1 hm
  have h1:¬k<Z9 l l[k]:=fun hlt=>by
   have:=(hp.2 k hk).2 hlt;rw[(Zhu _ _).2 rfl]at this;omega
  have h2:¬Z9 l l[k]<k:=fun hlt=>by
   have h3:=List.pairwise_iff_getElem.1 h (Z9 l l[k]) k (by omega) hk hlt;have:=(hp.2 _ (by omega)).1 h3;omega
  have h3:Z9 l l[k]=k:=by omega
  rw[h3,Qg hk];simp[(Zhu _ _).2 rfl]
/- Digraphs:how one lies in memory;what reads it. -/
structure HArc where
 f:Int
 t:Int
 kind:Int
 label:Int
deriving DecidableEq
def HArc.cells(a:HArc):Gl:=[Qi a.f,Qi a.t,Qi a.kind,Qi a.label]
def RowsD(w:Gy)(base:Nat)(hs:Gl)(ls:List (Gn)):Prop:=
 hs.length=ls.length∧∀i (hi:i<ls.length),∃A c,hs[i]? =some (.slice A ls[i].length c)∧w.ownsRow base 203 3 (.slice A ls[i].length c) ls[i].length (ls[i].map DEnd.cells).flatten
def ApartD(hs:Gl):Prop:=∀(i j:Nat) (v u:Gz) (k:Nat),hs[i]? =some v->hs[j]? =some u->i≠j->Own v k->¬Own u k
structure GIs (w:World) (G:Nat->Prop) (g:Nat) (out inn:List (List DEnd)) (n:Int) (ob ib:Nat) (oh ih:List Value) (base:Nat):Prop where
 blk:Blk w g 200 [.slice (some ⟨ob,0,none⟩) out.length out.length,.slice (some ⟨ib,0,none⟩) out.length out.length,Qi n]
 ob_:Blk w ob 206 oh
 ib_:Blk w ib 206 ih
 len:inn.length=out.length
 ro:RowsD w base oh out
 ri:RowsD w base ih inn
 dis:ApartD (oh++ih)
 low:g<base∧ob<base∧ib<base
 ne:g≠ob∧g≠ib∧ob≠ib
 inG:G g∧G ob∧G ib∧∀v∈oh++ih,∀k,Own v k->G k
 old:∀k,G k->k<w.heap.size
 few:out.length<=4096∧(∀l∈out,l.length<=100000)∧(∀l∈inn,l.length<=100000)
theorem RowsD.upd{S:Gt}{w w':Gy}{base:Nat}{hs:Gl}{ls:List (Gn)}(h:RowsD w base hs ls)(k:Upd S w w')(hn:∀v∈hs,∀i,Own v i->¬S i):RowsD w' base hs ls:=
 ⟨h.1,fun i hi=>by
  obtain⟨A,c,h1,h2⟩:=h.2 i hi;exact⟨A,c,h1,Za h2 k (fun j e=>hn _ (E6 h1) j e)⟩⟩
theorem GIs.upd{S:Gt}{w w':Gy}{G:Gt}{g:Nat}{out inn:List (Gn)}{n:Int}{ob ib:Nat}{oh ih:Gl}{base:Nat}(h:GIs w G g out inn n ob ib oh ih base)(k:Upd S w w')(hn:∀i,G i->¬S i):GIs w' G g out inn n ob ib oh ih base:=
 {h with
  blk:=h.blk.upd k (hn _ h.inG.1)
  ob_:=h.ob_.upd k (hn _ h.inG.2.1)
  ib_:=h.ib_.upd k (hn _ h.inG.2.2.1)
  ro:=h.ro.upd k fun v hv i e=>hn _ (h.inG.2.2.2 v (E9 _ hv) i e)
  old:=fun i hi=>Fe (h.old i hi) k.size
  ri:=h.ri.upd k fun v hv i e=>hn _ (h.inG.2.2.2 v (Ey _ hv) i e)}
section
variable {w:Gy} {G:Gt} {g:Nat} {out inn:List (Gn)} {n:Int} {ob ib:Nat} {oh ih:Gl} {base:Nat}
theorem Zqi(h:GIs w G g out inn n ob ib oh ih base):CE 145 #[.pointer (some ⟨g,0,none⟩)] w (Qi (out.length:Int)):=by
 have c0:=h.blk.cell 0;simp only[Qz]at c0;go_enter Tryz.func145,Tryz.ntmps145;go_wp2;go_ret;exact⟨rfl,rfl⟩
def Zay(N:Nat)(i:Int):Bool:=decide (0<=i)&&decide (i<(N:Int))
theorem Zoy(h:GIs w G g out inn n ob ib oh ih base)(i:Int):CE 149 #[.pointer (some ⟨g,0,none⟩),Qi i] w (.bool (Zay out.length i)):=by
 have HN:=Qh (Zqi h)
 by_cases h0:0<=i
 ·have HV:=Qh (show Zay out.length i=decide (i<(out.length:Int)) by unfold Zay;rw[Qt h0];rfl);go_enter Tryz.func149,Tryz.ntmps149;go_wp2_with fail;refine(HN.out).mono ?_;rintro e w1 ⟨rfl,rfl⟩;go_wp2;go_ret;exact⟨by rw[HV.out];rfl,rfl⟩
 ·have HV:=Qh (show Zay out.length i=false by unfold Zay;rw[Qf h0];rfl);have hb:decide (0<=i)=false:=Qf h0;clear h0;go_enter Tryz.func149,Tryz.ntmps149;go_wp2;go_ret;exact⟨by rw[HV.out];rfl,rfl⟩
def Zs(N:Nat)(a:HArc):Bool:=Zay N a.f&&(Zay N a.t&&(decide (1<=a.kind)&&(decide (a.kind<=3)&&(decide (0<=a.label)&&decide (a.label<=1048575)))))
theorem Zqf(h:GIs w G g out inn n ob ib oh ih base)(a:HArc):CN 137 #[.pointer (some ⟨g,0,none⟩),.agg a.cells.toArray] w (.bool (Zs out.length a)):=by
 obtain⟨af,at',ak,al⟩:=a;unfold HArc.cells;have u0:=(Gg No w).alloc (.cells #[Qi af,Qi at',Qi ak,Qi al] 132);have hn:=fun i=>Zoy (h.upd u0 Qo) i
 obtain⟨b1,hb1⟩:∃b,Zay out.length af=b:=⟨_,rfl⟩;obtain⟨b2,hb2⟩:∃b,Zay out.length at'=b:=⟨_,rfl⟩;have hn1:=hn af;have ex:=hn at';rw[hb1]at hn1;rw[hb2]at ex;have iO:=Qh hn1;have jo:=Qh ex;have hv:Zs out.length ⟨af,at',ak,al⟩=(b1&&(b2&&(decide (1<=ak)&&(decide (ak<=3)&&(decide (0<=al)&&decide (al<=1048575)))))):=by unfold Zs;rw[hb1,hb2]
 have HV:=Qh hv;clear hn hn1 ex hb1 hb2 hv
 cases b1
 ·go_enter Tryz.func137,Tryz.ntmps137;go_wp2_with fail;refine(iO.out).mono ?_;rintro e w1 ⟨rfl,rfl⟩;go_wp2;go_ret;exact⟨by rw[HV.out];rfl,u0⟩
 ·cases b2
  ·go_enter Tryz.func137,Tryz.ntmps137;go_wp2_with fail;refine(iO.out).mono ?_;rintro e w1 ⟨rfl,rfl⟩;go_wp2_with fail;refine(jo.out).mono ?_;rintro e w1 ⟨rfl,rfl⟩;go_wp2;go_ret;exact⟨by rw[HV.out];rfl,u0⟩
  ·by_cases k1:1<=ak
   ·by_cases k2:ak<=3
    ·by_cases k3:0<=al
     ·have HW:=Qh (show Zs out.length ⟨af,at',ak,al⟩=decide (al<=1048575) by rw[HV.out,Qt k1,Qt k2,Qt k3];rfl);go_enter Tryz.func137,Tryz.ntmps137;go_wp2_with fail;refine(iO.out).mono ?_;rintro e w1 ⟨rfl,rfl⟩;go_wp2_with fail;refine(jo.out).mono ?_;rintro e w1 ⟨rfl,rfl⟩;go_wp2;go_ret;exact⟨by rw[HW.out];rfl,u0⟩
     ·have HW:=Qh (show Zs out.length ⟨af,at',ak,al⟩=false by rw[HV.out,Qf k3];simp);have kb:decide (0<=al)=false:=Qf k3;clear k3;go_enter Tryz.func137,Tryz.ntmps137;go_wp2_with fail;refine(iO.out).mono ?_;rintro e w1 ⟨rfl,rfl⟩;go_wp2_with fail;refine(jo.out).mono ?_;rintro e w1 ⟨rfl,rfl⟩;go_wp2;go_ret;exact⟨by rw[HW.out];rfl,u0⟩
    ·have HW:=Qh (show Zs out.length ⟨af,at',ak,al⟩=false by rw[HV.out,Qf k2];simp);have kb:decide (ak<=3)=false:=Qf k2;clear k2;go_enter Tryz.func137,Tryz.ntmps137;go_wp2_with fail;refine(iO.out).mono ?_;rintro e w1 ⟨rfl,rfl⟩;go_wp2_with fail;refine(jo.out).mono ?_;rintro e w1 ⟨rfl,rfl⟩;go_wp2;go_ret;exact⟨by rw[HW.out];rfl,u0⟩
   ·have HW:=Qh (show Zs out.length ⟨af,at',ak,al⟩=false by rw[HV.out,Qf k1];simp);have kb:decide (1<=ak)=false:=Qf k1;clear k1;go_enter Tryz.func137,Tryz.ntmps137;go_wp2_with fail;refine(iO.out).mono ?_;rintro e w1 ⟨rfl,rfl⟩;go_wp2_with fail;refine(jo.out).mono ?_;rintro e w1 ⟨rfl,rfl⟩;go_wp2;go_ret;exact⟨by rw[HW.out];rfl,u0⟩
end
def Zbu(a:HArc):DEnd:=⟨a.kind,a.label,a.t⟩
def inE(a:HArc):DEnd:=⟨a.kind,a.label,a.f⟩
theorem Upd.blk{S:Gt}{w w':Gy}{g:Nat}{t:Gx}{cs:Gl}(k:Upd S w w')(h:Blk w g t cs)(hn:¬S g):Blk w' g t cs:=h.upd k hn
def Zek(a b:Nat):Nat->Prop:=fun i=>i=a∨i=b
theorem ZsA(w:Gy)(a:HArc):CN 139 #[.agg a.cells.toArray] w (.tuple #[.agg (Zbu a).cells.toArray,.agg (inE a).cells.toArray]):=by
 obtain⟨af,at',ak,al⟩:=a;unfold HArc.cells;obtain⟨wb,ah⟩:=Qe (((w.alloc (.cells #[Qi af,Qi at',Qi ak,Qi al] 132)).alloc (.cells #[Qi 0,Qi 0,Qi 0] 203)).alloc (.cells #[Qi 0,Qi 0,Qi 0] 203));have u0:Upd No w wb:=by rw[<-ah];exact(((Gg No w).alloc _).alloc _).alloc _
 have bA:Blk wb w.heap.size 132 [Qi af,Qi at',Qi ak,Qi al]:=by rw[<-ah];exact((Gh w 132 [Qi af,Qi at',Qi ak,Qi al]).alloc _).alloc _
 have h1:Blk wb (w.heap.size+1) 203 [Qi 0,Qi 0,Qi 0]:=by
  rw[<-ah];have:=(Gh (w.alloc (.cells #[Qi af,Qi at',Qi ak,Qi al] 132)) 203 [Qi 0,Qi 0,Qi 0]).alloc (.cells #[Qi 0,Qi 0,Qi 0] 203)
  simpa using this
 have h2:Blk wb (w.heap.size+1+1) 203 [Qi 0,Qi 0,Qi 0]:=by
  rw[<-ah];have:=Gh ((w.alloc (.cells #[Qi af,Qi at',Qi ak,Qi al] 132)).alloc (.cells #[Qi 0,Qi 0,Qi 0] 203)) 203 [Qi 0,Qi 0,Qi 0]
  simpa using this
 have hn:¬Zek (w.heap.size+1) (w.heap.size+1+1) w.heap.size:=by unfold Zek;omega
 have a0:∀W,Upd (Zek (w.heap.size+1) (w.heap.size+1+1)) wb W->W.cell? ⟨w.heap.size,0,none⟩=some (Qi af):=fun W hW=>(bA.upd hW hn).cell 0
 have a1:∀W,Upd (Zek (w.heap.size+1) (w.heap.size+1+1)) wb W->W.cell? ⟨w.heap.size,1,none⟩=some (Qi at'):=fun W hW=>(bA.upd hW hn).cell 1
 have a2:∀W,Upd (Zek (w.heap.size+1) (w.heap.size+1+1)) wb W->W.cell? ⟨w.heap.size,2,none⟩=some (Qi ak):=fun W hW=>(bA.upd hW hn).cell 2
 have a3:∀W,Upd (Zek (w.heap.size+1) (w.heap.size+1+1)) wb W->W.cell? ⟨w.heap.size,3,none⟩=some (Qi al):=fun W hW=>(bA.upd hW hn).cell 3
 have vr:=Qh ah;have U0:=Qh u0;clear ah u0 bA hn;have H1:=Qh h1;have H2:=Qh h2;clear h1 h2;go_enter Tryz.func139,Tryz.ntmps139;go_wp2;rw[vr.out];refine wpS (fun w'=>Upd (Zek (w.heap.size+1) (w.heap.size+1+1)) wb w') ?_ fun jH=>?_
 ·(first|exact(Gg _ _).drew|exact jH.trans hq)
 (iterate 14 refine wpF ?_);refine wpZ 14 rfl fun K hK=>?_
 (first
  |(refine ZcV rfl rfl (g:=w.heap.size+1) (cells:=[Qi ak,Qi al,Qi at']) rfl rfl (show Blk _ _ 203 [Qi 0,Qi 0,Qi 0] from H1.out) (by kernel_rfl) rfl rfl ?_;intro w5 aS hu5;have H1:=Qh aS;have H2:=Qh (hu5.blk (g:=w.heap.size+1+1) (t:=203) (cs:=[Qi 0,Qi 0,Qi 0]) (by exact H2.out) (by unfold One;omega));have hq:=hu5.mono (T:=Zek (w.heap.size+1) (w.heap.size+1+1)) (fun _ _ e=>Or.inl e);clear aS hu5)
  |(refine ZcV rfl rfl (g:=w.heap.size+1+1) (cells:=[Qi ak,Qi al,Qi af]) rfl rfl (show Blk _ _ 203 [Qi 0,Qi 0,Qi 0] from H2.out) (by kernel_rfl) rfl rfl ?_;intro w5 aS hu5;have H2:=Qh aS;have H1:=Qh (hu5.blk (g:=w.heap.size+1) (t:=203) (cs:=[Qi ak,Qi al,Qi at']) (by exact H1.out) (by unfold One;omega));have hq:=hu5.mono (T:=Zek (w.heap.size+1) (w.heap.size+1+1)) (fun _ _ e=>Or.inr e);clear aS hu5))
 refine hK.out _ _ ?_ fun jH=>?_
 ·(first|exact(Gg _ _).drew|exact jH.trans hq)
 try simp only[Qa]
 refine wpZ 15 rfl fun K hK=>?_
 (first
  |(refine ZcV rfl rfl (g:=w.heap.size+1) (cells:=[Qi ak,Qi al,Qi at']) rfl rfl (show Blk _ _ 203 [Qi 0,Qi 0,Qi 0] from H1.out) (by kernel_rfl) rfl rfl ?_;intro w5 aS hu5;have H1:=Qh aS;have H2:=Qh (hu5.blk (g:=w.heap.size+1+1) (t:=203) (cs:=[Qi 0,Qi 0,Qi 0]) (by exact H2.out) (by unfold One;omega));have hq:=hu5.mono (T:=Zek (w.heap.size+1) (w.heap.size+1+1)) (fun _ _ e=>Or.inl e);clear aS hu5)
  |(refine ZcV rfl rfl (g:=w.heap.size+1+1) (cells:=[Qi ak,Qi al,Qi af]) rfl rfl (show Blk _ _ 203 [Qi 0,Qi 0,Qi 0] from H2.out) (by kernel_rfl) rfl rfl ?_;intro w5 aS hu5;have H2:=Qh aS;have H1:=Qh (hu5.blk (g:=w.heap.size+1) (t:=203) (cs:=[Qi ak,Qi al,Qi at']) (by exact H1.out) (by unfold One;omega));have hq:=hu5.mono (T:=Zek (w.heap.size+1) (w.heap.size+1+1)) (fun _ _ e=>Or.inr e);clear aS hu5))
 refine hK.out _ _ ?_ fun jH=>?_
 ·(first|exact(Gg _ _).drew|exact jH.trans hq)
 try simp only[Qa]
 refine wpD (Gd ?_)
 all_goals
  obtain⟨r0,r1,r2⟩:=H1.out.c3;obtain⟨s0,s1,s2⟩:=H2.out.c3;have HU:=Qh (U0.out.then_ jH (fun i e=>by unfold Zek at e;exact .inr (by omega)));clear jH a0 a1 a2 a3;go_wp2;refine bodyPost_ret (v:= .tuple #[.agg #[Qi ak,Qi al,Qi at'],.agg #[Qi ak,Qi al,Qi af]]) (by simp[results,Tryz.results139,go_sem,r0,r1,r2,s0,s1,s2]) rfl ?_;exact⟨rfl,HU.out⟩
/- Digraphs:whether an arc is there. -/
theorem ZcY{N:Nat}{a:HArc}(h:Zs N a=true):∃i j:Nat,a.f=(i:Int)∧a.t=(j:Int)∧i<N∧j<N:=by
 simp only[Zs,Zay,Fp,Ff]at h;exact⟨a.f.toNat,a.t.toNat,by omega,by omega,by omega,by omega⟩
theorem Zna(w0 w2:Gy)(h:Upd No w0 w2)(t:Gx)(c1 c2:Gl)(wb:Gy)(e:(w2.alloc (.cells c1.toArray t)).alloc (.cells c2.toArray t)=wb):Blk wb w2.heap.size t c1∧Blk wb (w2.heap.size+1) t c2∧Upd No w0 wb∧Upd No w2 wb:=by
 subst e;refine⟨(Gh w2 t c1).alloc _,?_,(h.alloc _).alloc _,((Gg No w2).alloc _).alloc _⟩;have:=Gh (w2.alloc (.cells c1.toArray t)) t c2
 simpa using this
def ZeJ(out:List (Gn))(a:HArc):Bool:=Zs out.length a&&(match out[a.f.toNat]? with|some l=>decide (Zbu a∈l)|none=>false)
section
variable {w:Gy} {G:Gt} {g:Nat} {out inn:List (Gn)} {n:Int} {ob ib:Nat} {oh ih:Gl} {base:Nat}
theorem Zwt(h:GIs w G g out inn n ob ib oh ih base)(hr:∀l∈out,ZbO l)(a:HArc):CN 138 #[.pointer (some ⟨g,0,none⟩),.agg a.cells.toArray] w (.bool (ZeJ out a)):=by
 have u0:=(Gg No w).alloc (.cells a.cells.toArray 132);have hn:=Qh (Zqf (h.upd u0 Qo) a);have bA:=Qh (Gh w 132 a.cells);have HH:=Qh h;have U0:=Qh u0
 by_cases hR:Zs out.length a=true
 ·obtain⟨i,j,e1,e2,hi,hj⟩:=ZcY hR
  have hv:ZeJ out a=decide (Zbu a∈out[i]):=by
   unfold ZeJ;rw[hR,e1];simp[Qg hi]
  have HV:=Qh hv;have HE:=Qh (fun(W:Gy)=>ZsA W a);rw[hR]at hn;obtain⟨A,c,dM,ae⟩:=h.ro.2 i hi;have HO:=Qh ae;have uO:=Qh (hr _ (Fr hi));have bu:=h.few.2.1 _ (Fr hi);obtain⟨af,at',ak,al⟩:=a;subst e1 e2;unfold HArc.cells at*;simp only[Zbu,inE,DEnd.cells]at HE;clear hR hv h u0 hr ae;go_enter Tryz.func138,Tryz.ntmps138;go_wp2_with fail;refine Ck hn.out fun w1 hu1=>?_;have b1:=bA.out.upd hu1 id;obtain⟨c0,c1,c2,c3⟩:=b1.c4;have U1:=Qh (U0.out.trans hu1);have B1:=Qh b1;clear b1 hu1 hn bA U0;go_wp2_with fail;refine Ck ((HE.out _)) fun w2 hu2=>?_;have U2:=Qh (U1.out.trans hu2);have B2:=Qh (B1.out.upd hu2 id);clear B1 U1 hu2 c0 c1 c2 c3 HE;go_wp2;obtain⟨wb,ah⟩:=Qe ((w2.alloc (.cells #[Qi ak,Qi al,Qi (j:Int)] 203)).alloc (.cells #[Qi ak,Qi al,Qi (i:Int)] 203));obtain⟨n1,n2,n3,n4⟩:=Zna w w2 U2.out 203 [Qi ak,Qi al,Qi (j:Int)] [Qi ak,Qi al,Qi (i:Int)] wb ah;have b4:=B2.out.upd n4 id;have hg:=HH.out.upd n3 Qo;have vD:=List.getElem?_eq_some_iff.1 dM;have g0:∀W,Upd No wb W->W.cell? ⟨g,0,none⟩=some (.slice (some ⟨ob,0,none⟩) out.length out.length):=fun W hW=>(hg.blk.upd hW id).cell 0
  have a0:∀W,Upd No wb W->W.cell? ⟨w.heap.size,0,none⟩=some (Qi (i:Int)):=fun W hW=>(b4.upd hW id).cell 0
  have oi:∀W,Upd No wb W->W.cell? ⟨ob,i,none⟩=some (.slice A out[i].length c):=fun W hW=>by rw[(hg.ob_.upd hW id).cell i];exact dM
  have e0:∀W,Upd No wb W->W.cell? ⟨w2.heap.size,0,none⟩=some (Qi ak):=fun W hW=>(n1.upd hW id).cell 0
  have e1:∀W,Upd No wb W->W.cell? ⟨w2.heap.size,1,none⟩=some (Qi al):=fun W hW=>(n1.upd hW id).cell 1
  have e2:∀W,Upd No wb W->W.cell? ⟨w2.heap.size,2,none⟩=some (Qi (j:Int)):=fun W hW=>(n1.upd hW id).cell 2
  have HC:=Qh (fun(W:Gy) (hW:Upd No wb W)=>Zsz _ W A c out[i] ⟨ak,al,(j:Int)⟩ (Z9 out[i] ⟨ak,al,(j:Int)⟩) ((Ze9 (Za HO.out n3 Qo)).upd hW Qo) (by omega) (ZcM uO.out _));have k1:(0:Int)<=(i:Int):=Qn _;have k2:(i:Int)<(out.length:Int):=by omega
  rw[Zib uO.out]at HC;unfold DEnd.cells at HC;obtain⟨bv,n9⟩:∃b,decide ((⟨ak,al,(j:Int)⟩:DEnd)∈out[i])=b:=⟨_,rfl⟩;rw[n9]at HC;have HV:=Qh (HV.out.trans n9);have N3:=Qh n3;rw[ah];clear ah n1 n2 n3 n4 b4 hg B2 U2 HH dM vD HO uO bu n9;refine wpS (fun w'=>Upd No wb w') ?_ fun jH=>?_
  ·(first|exact(Gg No _).drew|exact jH.trans hu3)
  (iterate 9 refine wpF ?_);refine wpZ 9 rfl fun K hK=>?_;go_simp
  (first
  |(go_at_call 166;refine Ck (HC.out _ jH) fun w3 hu3=>?_))
  try (go_wp2_with fail)
  refine hK.out _ _ ?_ fun jH=>?_
  ·(first|exact(Gg No _).drew|exact jH.trans hu3)
  try simp only[Qa]
  (iterate 5 refine wpF ?_);refine wpD (Gd ?_)
  all_goals
   have HU:=Qh (N3.out.trans jH);clear jH g0 a0 oi e0 e1 e2;go_wp2;go_ret;exact⟨by rw[HV.out];rfl,HU.out⟩
 ·have od:Zs out.length a=false:=by simpa using hR
  rw[od]at hn;have HV:=Qh (show ZeJ out a=false by unfold ZeJ;rw[od];rfl);obtain⟨af,at',ak,al⟩:=a;unfold HArc.cells at*;clear hR od h u0 bA;go_enter Tryz.func138,Tryz.ntmps138;go_wp2_with fail;refine Ck hn.out fun w1 hu1=>?_;have hu:=Qh (U0.out.trans hu1);clear hu1 hn;go_wp2;go_ret;exact⟨by rw[HV.out];rfl,hu.out⟩
end
/- Digraphs:a row of ends put in another's place. -/
theorem Zhz{P:Gw}{ops:Array Oper}{o:Oper}{a:Act}{W:Gy}{K:Act->Gy->Prop}{Q:Exit->Act->Gy->Prop}{E:Prop}(cw:o.guard=none){ty:Gx}{x y:Operand}(ho:o.op= .store ty x y)
  {g i:Nat} {t:Gx} {old:Gl} {A:OA} {n c:Nat} (hx:a.eval x= .pointer (some ⟨g,i,none⟩)) (hy:a.eval y= .slice A n c) (hb:Blk W g t old) (hi:(P.info? ty).map (·.size)=some 1) (hlt:i<old.length)
  (h:∀w',Blk w' g t (old.set i (.slice A n c))->Upd (One g) W w'->K (a.put o.dst undef) w'):if Region.wanted o (yielded ops a.tmps)=true then Oper.wp P o a W K Q else E:=by
 rw[if_pos (by simp[Region.wanted,cw])];have ag:=run_storeCells_at P g i t [.slice A n c] 0 old.toArray W hb (by simp;omega) (by simp[Value.oneCell'])
 have he:old.take i++[.slice A n c]++old.drop (i+1)=old.set i (.slice A n c):=by
  rw[List.set_eq_take_append_cons_drop,if_pos hlt];simp
 simp only[Nat.add_zero,Fs,Fz,Nat.zero_add,he]at ag
 cases hq:P.info? ty with
 |none=>simp[hq]at hi
 |some z=>
  have hs:z.size=1:=by simpa[hq]using hi
  have dl:(storeVar ty ⟨g,i,none⟩ (.slice A n c)).run P W= .ok () (W.setRow g (old.set i (.slice A n c)).toArray):=by
   simp[storeVar,sizeOf,typeInfo,hq,Value.cells,hs,ag]
  unfold Oper.wp execOp;simp only[ho,hx,hy,Instr.storeAt,Instr.sureAddr,Sem.run_bind,Sem.run_pure,Result.andThen_ok,dl];exact h _ (ZdE hb) (Zds _ _)
theorem RowsD.set{w w':Gy}{base:Nat}{hs:Gl}{ls:List (Gn)}(h:RowsD w base hs ls)(hA:ApartD hs){i:Nat}(hi:i<ls.length){v:Gz}(hv:hs[i]? =some v){S:Gt}(hu:Upd S w w')
  (hS:∀(j:Nat) u k,hs[j]? =some u->j≠i->Own u k->¬S k) {l:Gn} {A:OA} {c:Nat} (hn:w'.ownsRow base 203 3 (.slice A l.length c) l.length (l.map DEnd.cells).flatten):
  RowsD w' base (hs.set i (.slice A l.length c)) (ls.set i l):=by
 refine⟨by simpa using h.1,fun j hj=>?_⟩;have rR:j<ls.length:=by simpa using hj
 by_cases e:j=i
 ·subst e;refine⟨A,c,?_,?_⟩
  ·rw[List.getElem?_set_self (by rw[h.1];exact hi)];simp
  ·simpa using hn
 ·obtain⟨B,d,h1,h2⟩:=h.2 j rR;have hl:(ls.set i l)[j]=ls[j]:=by rw[List.getElem_set_ne (fun x=>e x.symm)]
  rw[hl];refine⟨B,d,?_,Za h2 hu (fun k hk=>hS j _ k h1 e hk)⟩;rw[List.getElem?_set_ne (fun x=>e x.symm)];exact h1
theorem ApartD.set{hs:Gl}(h:ApartD hs){N i:Nat}{v u:Gz}(hv:hs[i]? =some v)(hlt:∀x∈hs,∀k,Own x k->k<N)(hu:∀k,Own u k->Own v k∨N<=k):ApartD (hs.set i u):=by
 intro a b x y k ha hb hab hx hy;have dp:=(List.getElem?_eq_some_iff.1 hv).1;have mem:∀{j:Nat} {z:Gz},hs[j]? =some z->z∈hs:=fun e=>E6 e
 by_cases e1:a=i
 ·subst e1;rw[List.getElem?_set_self dp]at ha;rw[List.getElem?_set_ne hab]at hb
  cases ha
  rcases hu k hx with h1|h1
  ·exact h _ _ _ _ _ hv hb hab h1 hy
  ·have:=hlt _ (mem hb) _ hy;omega
 ·rw[List.getElem?_set_ne (fun x=>e1 x.symm)]at ha
  by_cases e2:b=i
  ·subst e2;rw[List.getElem?_set_self dp]at hb
   cases hb
   rcases hu k hy with h1|h1
   ·exact h _ _ _ _ _ ha hv hab hx h1
   ·have:=hlt _ (mem ha) _ hx;omega
  ·rw[List.getElem?_set_ne (fun x=>e2 x.symm)]at hb;exact h _ _ _ _ _ ha hb hab hx hy
def GG(w w':Gy)(G:Gt):Nat->Prop:=fun k=>G k∨(w.heap.size<=k∧k<w'.heap.size)
theorem Grew.own{w:Gy}{v u:Gz}(h:Grew w v u):∀k,Own u k->Own v k∨w.heap.size<=k:=by
 intro k hk;unfold Own at*;rcases h with h|⟨j,h1,h2⟩
 ·left;rw[<-h];exact hk
 ·right;rw[h1]at hk;cases hk;exact h2
section
variable {w w':Gy} {G:Gt} {g:Nat} {out inn:List (Gn)} {n:Int} {ob ib:Nat} {oh ih:Gl} {base:Nat}
theorem GIs.rowO(h:GIs w G g out inn n ob ib oh ih base){i:Nat}{l':Gn}{v:Gz}{A4:OA}{c4:Nat}(hi:i<out.length)(hv:oh[i]? =some v)
  (hu:Upd (fun k=>Own v k∨k=ob) w w') (hB:Blk w' ob 206 (oh.set i (.slice A4 l'.length c4))) (ho:w'.ownsRow base 203 3 (.slice A4 l'.length c4) l'.length (l'.map DEnd.cells).flatten)
  (hg:Grew w v (.slice A4 l'.length c4)) (hf:l'.length<=100000):GIs w' (GG w w' G) g (out.set i l') inn n ob ib (oh.set i (.slice A4 l'.length c4)) ih base:=by
 have cz:∀x∈oh++ih,∀k,Own x k->base<=k:=by
  intro x hx k hk;rcases Fu.1 hx with hx|hx
  ·obtain⟨j,hj,rfl⟩:=List.getElem_of_mem hx;obtain⟨B,d,h1,h2⟩:=h.ro.2 j (by rw[<-h.ro.1];exact hj);rw[Qg hj]at h1;rw[Option.some.inj h1]at hk;exact(h2.lt _ hk).1
  ·obtain⟨j,hj,rfl⟩:=List.getElem_of_mem hx;obtain⟨B,d,h1,h2⟩:=h.ri.2 j (by rw[<-h.ri.1];exact hj);rw[Qg hj]at h1;rw[Option.some.inj h1]at hk;exact(h2.lt _ hk).1
 have hl:=h.low;have oL:Own v g->False:=fun e=>by have:=cz v (E9 _ (E6 hv)) g e;omega
 have oa:Own v ib->False:=fun e=>by have:=cz v (E9 _ (E6 hv)) ib e;omega
 have gB:(oh.set i (.slice A4 l'.length c4))++ih=(oh++ih).set i (.slice A4 l'.length c4):=by
  rw[List.set_append_left];rw[h.ro.1];exact hi
 have ip:(oh++ih)[i]? =some v:=by rw[List.getElem?_append_left (by rw[h.ro.1];exact hi)];exact hv
 have hold:∀x∈oh++ih,∀k,Own x k->k<w.heap.size:=fun x hx k hk=>h.old k (h.inG.2.2.2 x hx k hk)
 constructor
 case blk=>simpa using h.blk.upd hu (fun e=>e.elim oL h.ne.1)
 case ob_=>exact hB
 case ib_=>exact h.ib_.upd hu (fun e=>e.elim oa (fun e=>h.ne.2.2 e.symm))
 case len=>simpa using h.len
 case ro=>
  refine h.ro.set (fun a b x y k ha hb=>h.dis a b x y k ?_ ?_) hi hv hu ?_ ho
  ·rw[List.getElem?_append_left (List.getElem?_eq_some_iff.1 ha).1];exact ha
  ·rw[List.getElem?_append_left (List.getElem?_eq_some_iff.1 hb).1];exact hb
  ·rintro j u k hj hne hk (e|e)
   ·exact h.dis j i u v k (by rw[List.getElem?_append_left (List.getElem?_eq_some_iff.1 hj).1];exact hj) ip hne hk e
   ·have:=cz u (E9 _ (E6 hj)) k hk;omega
 case ri=>
  refine h.ri.upd hu ?_;rintro u hx k hk (e|e)
  ·obtain⟨j,hj,rfl⟩:=List.getElem_of_mem hx;refine h.dis (oh.length+j) i _ v k (by rw[List.getElem?_append_right (by omega)];simp[hj]) ip (by rw[h.ro.1];omega) hk e
  ·have:=cz u (Ey _ hx) k hk;omega
 case dis=>rw[gB];exact h.dis.set ip hold hg.own
 case low=>exact h.low
 case ne=>exact h.ne
 case inG=>
  refine⟨.inl h.inG.1,.inl h.inG.2.1,.inl h.inG.2.2.1,?_⟩;rw[gB];intro x hx k hk;rcases List.mem_or_eq_of_mem_set hx with hx|rfl
  ·exact .inl (h.inG.2.2.2 x hx k hk)
  ·rcases hg.own k hk with e|e
   ·exact .inl (h.inG.2.2.2 v (E6 ip) k e)
   ·exact .inr ⟨e,(ho.lt _ hk).2⟩
 case old=>
  rintro k (hk|hk)
  ·exact Fe (h.old k hk) hu.size
  ·exact hk.2
 case few=>
  refine⟨by simpa using h.few.1,fun x hx=>?_,h.few.2.2⟩;rcases List.mem_or_eq_of_mem_set hx with hx|rfl
  ·exact h.few.2.1 x hx
  ·exact hf
theorem GIs.rowI(h:GIs w G g out inn n ob ib oh ih base){i:Nat}{l':Gn}{v:Gz}{A4:OA}{c4:Nat}(hi:i<inn.length)(hv:ih[i]? =some v)
  (hu:Upd (fun k=>Own v k∨k=ib) w w') (hB:Blk w' ib 206 (ih.set i (.slice A4 l'.length c4))) (ho:w'.ownsRow base 203 3 (.slice A4 l'.length c4) l'.length (l'.map DEnd.cells).flatten)
  (hg:Grew w v (.slice A4 l'.length c4)) (hf:l'.length<=100000):GIs w' (GG w w' G) g out (inn.set i l') n ob ib oh (ih.set i (.slice A4 l'.length c4)) base:=by
 have cz:∀x∈oh++ih,∀k,Own x k->base<=k:=by
  intro x hx k hk;rcases Fu.1 hx with hx|hx
  ·obtain⟨j,hj,rfl⟩:=List.getElem_of_mem hx;obtain⟨B,d,h1,h2⟩:=h.ro.2 j (by rw[<-h.ro.1];exact hj);rw[Qg hj]at h1;rw[Option.some.inj h1]at hk;exact(h2.lt _ hk).1
  ·obtain⟨j,hj,rfl⟩:=List.getElem_of_mem hx;obtain⟨B,d,h1,h2⟩:=h.ri.2 j (by rw[<-h.ri.1];exact hj);rw[Qg hj]at h1;rw[Option.some.inj h1]at hk;exact(h2.lt _ hk).1
 have hl:=h.low;have oL:Own v g->False:=fun e=>by have:=cz v (Ey _ (E6 hv)) g e;omega
 have oa:Own v ob->False:=fun e=>by have:=cz v (Ey _ (E6 hv)) ob e;omega
 have gB:oh++(ih.set i (.slice A4 l'.length c4))=(oh++ih).set (oh.length+i) (.slice A4 l'.length c4):=by
  rw[List.set_append_right _ _ (by omega)];simp
 have ip:(oh++ih)[oh.length+i]? =some v:=by rw[List.getElem?_append_right (by omega)];simpa using hv
 have hold:∀x∈oh++ih,∀k,Own x k->k<w.heap.size:=fun x hx k hk=>h.old k (h.inG.2.2.2 x hx k hk)
 constructor
 case blk=>simpa using h.blk.upd hu (fun e=>e.elim oL h.ne.2.1)
 case ob_=>exact h.ob_.upd hu (fun e=>e.elim oa h.ne.2.2)
 case ib_=>exact hB
 case len=>simpa using h.len
 case ri=>
  refine h.ri.set (fun a b x y k ha hb hab=>h.dis (oh.length+a) (oh.length+b) x y k ?_ ?_ (by omega)) hi hv hu ?_ ho
  ·rw[List.getElem?_append_right (by omega)];simpa using ha
  ·rw[List.getElem?_append_right (by omega)];simpa using hb
  ·rintro j u k hj hne hk (e|e)
   ·exact h.dis (oh.length+j) (oh.length+i) u v k (by rw[List.getElem?_append_right (by omega)];simpa using hj) ip (by omega) hk e
   ·have:=cz u (Ey _ (E6 hj)) k hk;omega
 case ro=>
  refine h.ro.upd hu ?_;rintro u hx k hk (e|e)
  ·obtain⟨j,hj,rfl⟩:=List.getElem_of_mem hx;refine h.dis j (oh.length+i) _ v k (by rw[List.getElem?_append_left hj];simp[hj]) ip (by omega) hk e
  ·have:=cz u (E9 _ hx) k hk;omega
 case dis=>rw[gB];exact h.dis.set ip hold hg.own
 case low=>exact h.low
 case ne=>exact h.ne
 case inG=>
  refine⟨.inl h.inG.1,.inl h.inG.2.1,.inl h.inG.2.2.1,?_⟩;rw[gB];intro x hx k hk;rcases List.mem_or_eq_of_mem_set hx with hx|rfl
  ·exact .inl (h.inG.2.2.2 x hx k hk)
  ·rcases hg.own k hk with e|e
   ·exact .inl (h.inG.2.2.2 v (E6 ip) k e)
   ·exact .inr ⟨e,(ho.lt _ hk).2⟩
 case old=>
  rintro k (hk|hk)
  ·exact Fe (h.old k hk) hu.size
  ·exact hk.2
 case few=>
  refine⟨h.few.1,h.few.2.1,fun x hx=>?_⟩;rcases List.mem_or_eq_of_mem_set hx with hx|rfl
  ·exact h.few.2.2 x hx
  ·exact hf
end
/- Digraphs:an arc added. -/
def Zei(out:List (Gn))(a:HArc):Int:=if Zs out.length a=true then (if ZeJ out a=true then 4 else 0) else 1
def Zfe(l:Gn)(e:DEnd):Gn:=Zcu l (Z9 l e) e
def Zgl(out:List (Gn))(a:HArc):List (Gn):=if Zei out a=0 then out.modify a.f.toNat (Zfe · (Zbu a)) else out
def Zgn(out inn:List (Gn))(a:HArc):List (Gn):=if Zei out a=0 then inn.modify a.t.toNat (Zfe · (inE a)) else inn
def Zgm(out:List (Gn))(n:Int)(a:HArc):Int:=if Zei out a=0 then n+1 else n
def DTo(w:Gy)(G:Gt)(g:Nat)(out inn:List (Gn))(n:Int)(ob ib:Nat)(base:Nat)(r:Gz)(e:Ending)(w':Gy):Prop:=
 ∃G' oh' ih',e= .returned r∧GIs w' G' g out inn n ob ib oh' ih' base∧Upd G w w'∧∀k,G' k->G k∨w.heap.size<=k
theorem GIs.same{w w':Gy}{G:Gt}{g:Nat}{out inn:List (Gn)}{n:Int}{ob ib:Nat}{oh ih:Gl}{base:Nat}(h:GIs w G g out inn n ob ib oh ih base)(k:Upd No w w')(r:Gz):DTo w G g out inn n ob ib base r (.returned r) w':=
 ⟨G,oh,ih,rfl,h.upd k Qo,k.mono (fun _ _ e=>e.elim),fun _ e=> .inl e⟩
def ZaM(v:Gz)(b:Nat):Nat->Prop:=fun k=>Own v k∨k=b
theorem Zrc(l:Gn)(e:DEnd)(h:Zld l e (Z9 l e)):(Zfe l e).length=l.length+1:=Zdn l _ e h.1
theorem GIs.apart{w:Gy}{G:Gt}{g:Nat}{out inn:List (Gn)}{n:Int}{ob ib:Nat}{oh ih:Gl}{base:Nat}(h:GIs w G g out inn n ob ib oh ih base){i j:Nat}{v u:Gz}(hv:oh[i]? =some v)(hu:ih[j]? =some u):∀k,u.ownBlock=some k->¬ZaM v ob k:=by
 rintro k hk (e|e)
 ·exact h.dis i (oh.length+j) v u k (by rw[List.getElem?_append_left (List.getElem?_eq_some_iff.1 hv).1];exact hv) (by rw[List.getElem?_append_right (by omega)];simpa using hu) (by have:=(List.getElem?_eq_some_iff.1 hv).1;omega) e hk
 ·obtain⟨hj,rfl⟩:=List.getElem?_eq_some_iff.1 hu;obtain⟨B,d,h1,h2⟩:=h.ri.2 j (by rw[<-h.ri.1];exact hj);rw[Qg hj]at h1;rw[Option.some.inj h1]at hk;have:=(h2.lt _ hk).1;have:=h.low;omega
theorem ZiZ{α:Type}(l:List α)(f:α->α)(i:Nat)(h:i<l.length):l.modify i f=l.set i (f l[i]):=by
 apply List.ext_getElem
 ·simp
 ·intro k h1 h2;rw[List.getElem_modify,List.getElem_set]
  split
  ·next e=>subst e;rfl
  ·rfl
theorem GIs.setN{w:Gy}{G:Gt}{g:Nat}{out inn:List (Gn)}{n:Int}{ob ib:Nat}{oh ih:Gl}{base:Nat}(h:GIs w G g out inn n ob ib oh ih base)(m:Int):GIs (w.setCell ⟨g,2,none⟩ (Qi m)) G g out inn m ob ib oh ih base:=by
 have u:=Upd.setOne (Gg (One g) w) 2 (Qi m);have hl:=h.low
 exact {h with
  blk:=h.blk.set_ 2 (Qi m)
  ob_:=h.ob_.upd u (fun e=>h.ne.1 e.symm)
  ib_:=h.ib_.upd u (fun e=>h.ne.2.1 e.symm)
  ro:=⟨h.ro.1,fun i hi=>by
   obtain⟨A,c,h1,h2⟩:=h.ro.2 i hi;exact⟨A,c,h1,Za h2 u (fun k hk e=>by have:=(h2.lt k hk).1;unfold One at e;omega)⟩⟩
  ri:=⟨h.ri.1,fun i hi=>by
   obtain⟨A,c,h1,h2⟩:=h.ri.2 i hi;exact⟨A,c,h1,Za h2 u (fun k hk e=>by have:=(h2.lt k hk).1;unfold One at e;omega)⟩⟩
  old:=fun k hk=>Fe (h.old k hk) u.size}
theorem ZqK{w wb w5 w7:Gy}{G:Gt}{v u:Gz}{ob ib:Nat}(h1:Upd No w wb)(h2:Upd (ZaM v ob) wb w5)(h3:Upd (ZaM u ib) w5 w7)(hv:∀k,Own v k->G k)(hu:∀k,Own u k->G k)(hb:G ob∧G ib):
  Upd G w w7∧∀k,GG w5 w7 (GG wb w5 G) k->G k∨w.heap.size<=k:=by
 have a1:Upd G w wb:=h1.mono (fun _ _ e=>e.elim);have a2:Upd G w w5:=a1.then_ h2 (by rintro k (e|rfl);exact .inl (hv k e);exact .inl hb.1);refine⟨a2.then_ h3 (by rintro k (e|rfl);exact .inl (hu k e);exact .inl hb.2),?_⟩;have z1:=h1.size;have z2:=h2.size;rintro k ((e|e)|e)
 ·exact .inl e
 ·exact .inr (by omega)
 ·exact .inr (by omega)
section
variable {w:Gy} {G:Gt} {g:Nat} {out inn:List (Gn)} {n:Nat} {ob ib:Nat} {oh ih:Gl} {base:Nat}
theorem Zwu(h:GIs w G g out inn n ob ib oh ih base)(hr:∀l∈out,ZbO l)(aE:∀l∈inn,ZbO l)(ci:(∀l∈out,l.length<100000)∧(∀l∈inn,l.length<100000))(Ef:n<1000000)(aL:base<=w.heap.size)(a:HArc):
  Calls Tryz.prog 108 #[.pointer (some ⟨g,0,none⟩),.agg a.cells.toArray] w (DTo w G g (Zgl out a) (Zgn out inn a) (Zgm out n a) ob ib base (Qi (Zei out a))):=by
 have u0:=(Gg No w).alloc (.cells a.cells.toArray 132);have hn:=Qh (Zqf (h.upd u0 Qo) a);have HA:=Qh (fun(W:Gy) (k:Upd No w W)=>Zwt (h.upd k Qo) hr a);have bA:=Qh (Gh w 132 a.cells);have HH:=Qh h;have U0:=Qh u0;have HZ:=Qh (And.intro ci (And.intro hr aE))
 by_cases hR:Zs out.length a=true
 ·obtain⟨i,j,e1,e2,hi,hj⟩:=ZcY hR;rw[hR]at hn
  by_cases hh:ZeJ out a=true
  ·have HW:=Qh (show Zei out a=4 by unfold Zei;rw[if_pos hR,if_pos hh]);have HX:=Qh (show Zgl out a=out∧Zgn out inn a=inn∧Zgm out n a=n by unfold Zgl Zgn Zgm;rw[HW.out];exact⟨rfl,rfl,rfl⟩);rw[hh]at HA;clear hR hh h hr aE ci u0 HZ e1 e2 hi hj;obtain⟨af,at',ak,al⟩:=a;unfold HArc.cells at*;go_enter Tryz.func108,Tryz.ntmps108;go_wp2_with fail;refine Ck hn.out fun w1 hu1=>?_;have b1:=bA.out.upd hu1 id;obtain⟨c0,c1,c2,c3⟩:=b1.c4;have U1:=Qh (U0.out.trans hu1);clear b1 hu1 hn bA U0;go_wp2_with fail;refine Ck ((HA.out _ U1.out)) fun w2 hu2=>?_;have U2:=Qh (U1.out.trans hu2);clear U1 hu2 c0 c1 c2 c3 HA;go_wp2;go_ret;rw[HX.out.1,HX.out.2.1,HX.out.2.2,HW.out];exact HH.out.same U2.out _
  ·have hf:ZeJ out a=false:=by simpa using hh
   have HW:=Qh (show Zei out a=0 by unfold Zei;rw[if_pos hR,if_neg hh]);rw[hf]at HA;have HX:=Qh (show Zgl out a=out.modify a.f.toNat (Zfe · (Zbu a))∧Zgn out inn a=inn.modify a.t.toNat (Zfe · (inE a))∧Zgm out n a=n+1 by unfold Zgl Zgn Zgm;rw[HW.out];exact⟨rfl,rfl,rfl⟩);have hjn:j<inn.length:=by rw[h.len];exact hj
   obtain⟨A,c,dM,ae⟩:=h.ro.2 i hi;obtain⟨B,d,hij,dU⟩:=h.ri.2 j hjn;have HE:=Qh (fun(W:Gy)=>ZsA W a);have co:=ci.1 _ (Fr hi);have aN:=ci.2 _ (Fr hjn);have cV:=ZcM (hr _ (Fr hi)) (Zbu a);have eE:=ZcM (aE _ (Fr hjn)) (inE a);have HP:=Qh (And.intro ae (And.intro dU (And.intro cV (And.intro eE (And.intro dM hij)))));obtain⟨af,at',ak,al⟩:=a;subst e1 e2;unfold HArc.cells at*;simp only[Zbu,inE,DEnd.cells]at HE;clear hR hh hf h hr aE ci u0 HZ ae dU cV eE dM hij;go_enter Tryz.func108,Tryz.ntmps108;go_wp2_with fail;refine Ck hn.out fun w1 hu1=>?_;have b1:=bA.out.upd hu1 id;obtain⟨c0,c1,c2,c3⟩:=b1.c4;have U1:=Qh (U0.out.trans hu1);have B1:=Qh b1;clear b1 hu1 hn bA U0;go_wp2_with fail;refine Ck ((HA.out _ U1.out)) fun w2 hu2=>?_;have b1:=B1.out.upd hu2 id;obtain⟨c0,c1,c2,c3⟩:=b1.c4;have U2:=Qh (U1.out.trans hu2);have B2:=Qh b1;clear b1 U1 B1 hu2 HA;go_wp2_with fail;refine Ck ((HE.out _)) fun w3 hu3=>?_;have U3:=Qh (U2.out.trans hu3);have B3:=Qh (B2.out.upd hu3 id);clear B2 U2 hu3 c0 c1 c2 c3 HE;go_wp2;obtain⟨wb,ah⟩:=Qe ((w3.alloc (.cells #[Qi ak,Qi al,Qi (j:Int)] 203)).alloc (.cells #[Qi ak,Qi al,Qi (i:Int)] 203))
   obtain⟨n1,n2,n3,n4⟩:=Zna w w3 U3.out 203 [Qi ak,Qi al,Qi (j:Int)] [Qi ak,Qi al,Qi (i:Int)] wb ah;have eF:=U3.out.size;have b4:=B3.out.upd n4 id;have hg:=HH.out.upd n3 Qo;obtain⟨ae,dU,cV,eE,dM,hij⟩:=HP.out;have pj:=Za ae n3 Qo;have eH:wb.heap.size<=wb.heap.size:=Nat.le_refl _;have mT:∀k,Own (.slice A out[i].length c) k->base<=k∧k<w.heap.size:=fun k hk=>ae.lt k hk
   have cz:=hg.low;have hne:=hg.ne;have t0:∀k,¬Own (.slice A out[i].length c) k->k≠ob->¬ZaM (.slice A out[i].length c) ob k:=fun k h1 h2 e=>e.elim h1 h2
   have t5:∀k,k<base->¬Own (.slice A out[i].length c) k:=fun k hk e=>by have:=mT _ e;omega
   have t6:∀k,w.heap.size<=k->¬Own (.slice A out[i].length c) k:=fun k hk e=>by have:=mT _ e;omega
   have t1:¬ZaM (.slice A out[i].length c) ob g:=t0 _ (t5 _ cz.1) (by omega);have t2:¬ZaM (.slice A out[i].length c) ob w.heap.size:=t0 _ (t6 _ (Nat.le_refl _)) (by omega);have t3:¬ZaM (.slice A out[i].length c) ob w3.heap.size:=t0 _ (t6 _ eF) (by omega);have t4:¬ZaM (.slice A out[i].length c) ob (w3.heap.size+1):=t0 _ (t6 _ (by omega)) (by omega);have g0:∀W,Upd (ZaM (.slice A out[i].length c) ob) wb W->W.cell? ⟨g,0,none⟩=some (.slice (some ⟨ob,0,none⟩) out.length out.length):=fun W hW=>(hg.blk.upd hW t1).cell 0
   have a0:∀W,Upd (ZaM (.slice A out[i].length c) ob) wb W->W.cell? ⟨w.heap.size,0,none⟩=some (Qi (i:Int)):=fun W hW=>(b4.upd hW t2).cell 0
   have e0:∀W,Upd (ZaM (.slice A out[i].length c) ob) wb W->W.cell? ⟨w3.heap.size,0,none⟩=some (Qi ak):=fun W hW=>(n1.upd hW t3).cell 0
   have e1:∀W,Upd (ZaM (.slice A out[i].length c) ob) wb W->W.cell? ⟨w3.heap.size,1,none⟩=some (Qi al):=fun W hW=>(n1.upd hW t3).cell 1
   have e2:∀W,Upd (ZaM (.slice A out[i].length c) ob) wb W->W.cell? ⟨w3.heap.size,2,none⟩=some (Qi (j:Int)):=fun W hW=>(n1.upd hW t3).cell 2
   have oi:wb.cell? ⟨ob,i,none⟩=some (.slice A out[i].length c):=by rw[hg.ob_.cell i];exact dM
   have HC:=Qh (fun(W:Gy) (hW:Upd No wb W)=>Zuz W base A c out[i] ⟨ak,al,(j:Int)⟩ (Z9 out[i] ⟨ak,al,(j:Int)⟩) (Za pj hW Qo) cV (by omega) (Nat.le_trans aL (Nat.le_trans n3.size (Nat.le_trans eH hW.size))));have aM:i<oh.length:=(List.getElem?_eq_some_iff.1 dM).1;have OB:=Qh (And.intro hg.ob_ (t5 ob cz.2.1));have k1:(0:Int)<=(i:Int):=Qn _;have k2:(i:Int)<(out.length:Int):=by omega
   unfold DEnd.cells at HC;have ST:=Qh (And.intro hg (And.intro n3 (And.intro b4 (And.intro n2 (And.intro t2 (And.intro t4 eF))))));rw[ah];clear ah n1 n2 n3 n4 b4 hg B3 U3 HH ae dU cV eE dM hij pj eF;clear mT cz hne t0 t1 t2 t3 t4 t5 t6 eH;refine wpS (fun w'=>Upd (ZaM (.slice A out[i].length c) ob) wb w') ?_ fun jH=>?_
   ·(first|exact(Gg _ _).drew|exact jH.trans hq)
   (iterate 13 refine wpF ?_);refine wpK 14 rfl ?_;refine wpZ 13 rfl fun K hK=>?_;go_simp;refine hK.out _ _ ?_ fun jH=>?_
   ·(first|exact(Gg _ _).drew|exact jH.trans hq)
   try simp only[Qa]
   refine wpZ 15 rfl fun K hK=>?_;go_simp
   (first
  |(go_at_call 140;refine(HC.out _ (Gg No _).drew).mono ?_;rintro e w4 ⟨A4,c4,rfl,cU,hu4,cQ⟩;have hq:=hu4.mono (T:=ZaM (.slice A out[i].length c) ob) (fun _ _ e=>Or.inl e);have H4:=Qh (And.intro cU (And.intro hu4 cQ));clear cU hu4 cQ))
   try (go_wp2_with fail)
   refine hK.out _ _ ?_ fun jH=>?_
   ·(first|exact(Gg _ _).drew|exact jH.trans hq)
   try simp only[Qa]
   refine wpK 16 rfl ?_;refine wpZ 17 rfl fun K hK=>?_
   (first
  |(refine Zhz rfl rfl (g:=ob) (i:=i) (t:=206) (old:=oh) rfl rfl (H4.out.2.1.blk OB.out.1 OB.out.2) (by kernel_rfl) aM ?_;intro w5 aS hu5;have hq:=hu5.mono (T:=ZaM (.slice A out[i].length c) ob) (fun _ _ e=>Or.inr e);have H5:=Qh (And.intro aS hu5);clear aS hu5))
   refine hK.out _ _ ?_ fun jH=>?_
   ·(first|exact(Gg _ _).drew|exact jH.trans hq)
   try simp only[Qa]
   refine wpD (Gd ?_)
   all_goals
    obtain⟨hg,n3,b4,n2,t2,t4,eF⟩:=ST.out;obtain⟨ae,dU,cV,eE,dM,hij⟩:=HP.out;have km:=jH;have dr:=hg.rowO hi dM jH H5.out.1 (Za H4.out.1 H5.out.2 (fun k hk e=>by have:=(H4.out.1.lt k hk).1;have:=hg.low;unfold One at e;omega)) H4.out.2.2 (Nat.le_trans (Nat.le_of_eq (Zdn out[i] (Z9 out[i] ⟨ak,al,(j:Int)⟩) ⟨ak,al,(j:Int)⟩ cV.1)) (by omega));have pA:=Za (Za dU n3 Qo) jH (hg.apart dM hij);have b4:=b4.upd jH t2;have n2:=n2.upd jH t4;have qj:inn.length=out.length:=hg.len;have mF:Blk w5 g 200 [.slice (some ⟨ob,0,none⟩) out.length out.length,.slice (some ⟨ib,0,none⟩) out.length out.length,Qi (n:Int)]:=by simpa using dr.blk
    go_wp2;clear HC OB g0 a0 e0 e1 e2 oi k1 k2 aM;have eH:wb.heap.size<=w5.heap.size:=km.size;have mT:∀k,Own (.slice B inn[j].length d) k->base<=k∧k<w.heap.size:=fun k hk=>dU.lt k hk
    have cz:=dr.low;have hne:=dr.ne;have t0:∀k,¬Own (.slice B inn[j].length d) k->k≠ib->¬ZaM (.slice B inn[j].length d) ib k:=fun k h1 h2 e=>e.elim h1 h2
    have t5:∀k,k<base->¬Own (.slice B inn[j].length d) k:=fun k hk e=>by have:=mT _ e;omega
    have t6:∀k,w.heap.size<=k->¬Own (.slice B inn[j].length d) k:=fun k hk e=>by have:=mT _ e;omega
    have t1:¬ZaM (.slice B inn[j].length d) ib g:=t0 _ (t5 _ cz.1) (by omega);have t2:¬ZaM (.slice B inn[j].length d) ib w.heap.size:=t0 _ (t6 _ (Nat.le_refl _)) (by omega);have t3:¬ZaM (.slice B inn[j].length d) ib w3.heap.size:=t0 _ (t6 _ eF) (by omega);have t4:¬ZaM (.slice B inn[j].length d) ib (w3.heap.size+1):=t0 _ (t6 _ (by omega)) (by omega);have g0:∀W,Upd (ZaM (.slice B inn[j].length d) ib) w5 W->W.cell? ⟨g,1,none⟩=some (.slice (some ⟨ib,0,none⟩) out.length out.length):=fun W hW=>(mF.upd hW t1).cell 1
    have a0:∀W,Upd (ZaM (.slice B inn[j].length d) ib) w5 W->W.cell? ⟨w.heap.size,1,none⟩=some (Qi (j:Int)):=fun W hW=>(b4.upd hW t2).cell 1
    have e0:∀W,Upd (ZaM (.slice B inn[j].length d) ib) w5 W->W.cell? ⟨(w3.heap.size+1),0,none⟩=some (Qi ak):=fun W hW=>(n2.upd hW t4).cell 0
    have e1:∀W,Upd (ZaM (.slice B inn[j].length d) ib) w5 W->W.cell? ⟨(w3.heap.size+1),1,none⟩=some (Qi al):=fun W hW=>(n2.upd hW t4).cell 1
    have e2:∀W,Upd (ZaM (.slice B inn[j].length d) ib) w5 W->W.cell? ⟨(w3.heap.size+1),2,none⟩=some (Qi (i:Int)):=fun W hW=>(n2.upd hW t4).cell 2
    have oi:w5.cell? ⟨ib,j,none⟩=some (.slice B inn[j].length d):=by rw[dr.ib_.cell j];exact hij
    have HC:=Qh (fun(W:Gy) (hW:Upd No w5 W)=>Zuz W base B d inn[j] ⟨ak,al,(i:Int)⟩ (Z9 inn[j] ⟨ak,al,(i:Int)⟩) (Za pA hW Qo) eE (by omega) (Nat.le_trans aL (Nat.le_trans n3.size (Nat.le_trans eH hW.size))));have aM:j<ih.length:=(List.getElem?_eq_some_iff.1 hij).1;have OB:=Qh (And.intro dr.ib_ (t5 ib cz.2.2));have k1:(0:Int)<=(j:Int):=Qn _;have k2:(j:Int)<(out.length:Int):=by omega
    unfold DEnd.cells at HC;have S6:=Qh (And.intro dr (And.intro km (And.intro dU hij)));clear hg n3 b4 n2 t2 t4 eF ae dU cV eE dM hij km dr pA jH hq mF qj;clear mT cz hne t0 t1 t2 t3 t4 t5 t6 eH;refine wpS (fun w'=>Upd (ZaM (.slice B inn[j].length d) ib) w5 w') ?_ fun jH=>?_
    ·(first|exact(Gg _ _).drew|exact jH.trans hq)
    (iterate 13 refine wpF ?_);refine wpK 14 rfl ?_;refine wpZ 13 rfl fun K hK=>?_;go_simp;refine hK.out _ _ ?_ fun jH=>?_
    ·(first|exact(Gg _ _).drew|exact jH.trans hq)
    try simp only[Qa]
    refine wpZ 15 rfl fun K hK=>?_;go_simp
    (first
  |(go_at_call 140;refine(HC.out _ (Gg No _).drew).mono ?_;rintro e w6 ⟨A6,c6,rfl,cU,hu4,cQ⟩;have hq:=hu4.mono (T:=ZaM (.slice B inn[j].length d) ib) (fun _ _ e=>Or.inl e);have H6:=Qh (And.intro cU (And.intro hu4 cQ));clear cU hu4 cQ))
    try (go_wp2_with fail)
    refine hK.out _ _ ?_ fun jH=>?_
    ·(first|exact(Gg _ _).drew|exact jH.trans hq)
    try simp only[Qa]
    refine wpK 16 rfl ?_;refine wpZ 17 rfl fun K hK=>?_
    (first
  |(refine Zhz rfl rfl (g:=ib) (i:=j) (t:=206) (old:=ih) rfl rfl (H6.out.2.1.blk OB.out.1 OB.out.2) (by kernel_rfl) aM ?_;intro w7 aS hu5;have hq:=hu5.mono (T:=ZaM (.slice B inn[j].length d) ib) (fun _ _ e=>Or.inr e);have H7:=Qh (And.intro aS hu5);clear aS hu5))
    refine hK.out _ _ ?_ fun jH=>?_
    ·(first|exact(Gg _ _).drew|exact jH.trans hq)
    try simp only[Qa]
    refine wpD (Gd ?_)
    all_goals
     obtain⟨dr,km,dU,hij⟩:=S6.out;obtain⟨hg,n3,b4,n2,t2,t4,eF⟩:=ST.out;obtain⟨ae,rx,cV,eE,dM,s7⟩:=HP.out;have gF:=dr.rowI hjn hij jH H7.out.1 (Za H6.out.1 H7.out.2 (fun k hk e=>by have:=(H6.out.1.lt k hk).1;have:=dr.low;unfold One at e;omega)) H6.out.2.2 (Nat.le_trans (Nat.le_of_eq (Zdn inn[j] (Z9 inn[j] ⟨ak,al,(i:Int)⟩) ⟨ak,al,(i:Int)⟩ eE.1)) (by omega));have hin:=hg.inG;have HU:=Qh (ZqK n3 km jH (fun k e=>hin.2.2.2 _ (E9 _ (E6 dM)) k e) (fun k e=>hin.2.2.2 _ (Ey _ (E6 hij)) k e) ⟨hin.2.1,hin.2.2.1⟩);have AS:=Qh hin.1;have HR:=Qh (gF.setN ((n:Int)+1));have c9:=gF.blk.cell 2;simp only[Qz,Qs]at c9;have f9:=gF.blk.free 2;have hw:IntKind.i64.wrap ((n:Int)+1)=(n:Int)+1:=IntWalk.i64_in _ (by omega);clear dr km dU hij hg n3 b4 n2 t2 t4 eF ae rx cV eE dM s7 gF hin jH g0 a0 e0 e1 e2 oi hq;go_wp2;go_ret;rw[HX.out.1,HX.out.2.1,HX.out.2.2,HW.out,ZiZ _ _ _ (by simpa using hi),ZiZ _ _ _ (by simpa using hjn)];refine⟨_,_,_,rfl,HR.out,(HU.out.1.then_ (Upd.setOne (Gg (One g) _) 2 _) (fun k e=> .inl (by unfold One at e;exact e▸AS.out))),HU.out.2⟩
 ·have od:Zs out.length a=false:=by simpa using hR
  rw[od]at hn;have HW:=Qh (show Zei out a=1 by unfold Zei;rw[if_neg hR]);have HX:=Qh (show Zgl out a=out∧Zgn out inn a=inn∧Zgm out n a=n by unfold Zgl Zgn Zgm;rw[HW.out];exact⟨rfl,rfl,rfl⟩);clear hR od h hr aE ci u0 bA HA HZ;obtain⟨af,at',ak,al⟩:=a;unfold HArc.cells at*;go_enter Tryz.func108,Tryz.ntmps108;go_wp2_with fail;refine Ck hn.out fun w1 hu1=>?_;have hu:=Qh (U0.out.trans hu1);clear hu1 hn;go_wp2;go_ret;rw[HX.out.1,HX.out.2.1,HX.out.2.2,HW.out];exact HH.out.same hu.out _
end
/- Digraphs:an arc dropped. -/
def Zk9(out:List (Gn))(a:HArc):Int:=if ZeJ out a=true then 0 else 3
def ZeW(l:Gn)(e:DEnd):Gn:=Zla l (Z9 l e)
def Zsv(out:List (Gn))(a:HArc):List (Gn):=if Zk9 out a=0 then out.modify a.f.toNat (ZeW · (Zbu a)) else out
def Zsw(out inn:List (Gn))(a:HArc):List (Gn):=if Zk9 out a=0 then inn.modify a.t.toNat (ZeW · (inE a)) else inn
theorem Zs2{l:Gn}(h:ZbO l){e:DEnd}(m:e∈l):Z9 l e<l.length:=by
 have h1:=Zib h e;rw[Qt m]at h1;unfold Zf3 at h1
 split at h1
 ·next x hx=>exact(List.getElem?_eq_some_iff.1 hx).1
 ·cases h1
section
variable {w:Gy} {G:Gt} {g:Nat} {out inn:List (Gn)} {n:Nat} {ob ib:Nat} {oh ih:Gl} {base:Nat}
end
/- Digraphs:a new one;a nil one. -/
theorem ZqO:SlT Tryz.prog 198 206 1 24:=SlT.mk_ Tryz.underlying198 (z:= .slice none 0 0) (by kernel_rfl) rfl (by omega)
def Zdy(n:Int):Nat:=(min (max n 0) 4096).toNat
theorem ZqZ(n:Int):Zdy n<=4096:=by unfold Zdy;omega
def Zsf(w:Gy)(N:Nat)(e:Ending)(w':Gy):Prop:=
 ∃G g ob ib oh ih,e= .returned (.pointer (some ⟨g,0,none⟩))∧GIs w' G g (List.replicate N []) (List.replicate N []) 0 ob ib oh ih w'.heap.size∧Upd No w w'∧∀k,G k->w.heap.size<=k
theorem ZpW(N:Nat):madeCells #[Value.slice none 0 0] (N*1)=(List.replicate N (Value.slice none 0 0)).toArray:=by
 apply Array.ext
 ·simp[madeCells]
 ·intro i h1 h2;simp[madeCells,Nat.mod_one]
theorem Ztl(w:Gy)(N:Nat)(hN:N<=4096)(a b:Nat)(hab:(a=w.heap.size∧b=w.heap.size+1)∨(a=w.heap.size+1∧b=w.heap.size))(w':Gy)(u:Upd No w w')(hz:w'.heap.size=w.heap.size+3)
  (h1:Blk w' w.heap.size 206 (List.replicate N (.slice none 0 0))) (h2:Blk w' (w.heap.size+1) 206 (List.replicate N (.slice none 0 0)))
  (h3:Blk w' (w.heap.size+2) 200 [.slice (some ⟨a,0,none⟩) N N,.slice (some ⟨b,0,none⟩) N N,Qi 0]):Zsf w N (.returned (.pointer (some ⟨w.heap.size+2,0,none⟩))) w':=by
 have hd:RowsD w' w'.heap.size (List.replicate N (.slice none 0 0)) (List.replicate N []):=by
  refine⟨by simp,fun i hi=>⟨none,0,?_,?_⟩⟩
  ·simp at hi;simp[hi]
  ·simp only[List.getElem_replicate];exact Gf _ _ _ _
 have hno:∀v∈List.replicate N (Value.slice none 0 0)++List.replicate N (Value.slice none 0 0),∀k,¬Own v k:=by
  intro v hv k hk;simp only[Fu,List.mem_replicate,or_self]at hv;rw[hv.2]at hk;simp[Own,Value.ownBlock]at hk
 refine⟨fun k=>w.heap.size<=k∧k<w'.heap.size,w.heap.size+2,a,b,List.replicate N (.slice none 0 0),List.replicate N (.slice none 0 0),rfl,?_,u,fun k hk=>hk.1⟩;have ha:Blk w' a 206 (List.replicate N (.slice none 0 0)):=by rcases hab with ⟨rfl,_⟩|⟨rfl,_⟩<;>assumption
 have hb:Blk w' b 206 (List.replicate N (.slice none 0 0)):=by rcases hab with ⟨_,rfl⟩|⟨_,rfl⟩<;>assumption
 constructor
 case blk=>simpa using h3
 case ob_=>exact ha
 case ib_=>exact hb
 case len=>rfl
 case ro=>exact hd
 case ri=>exact hd
 case dis=>intro i j v u k hv hu hne hk;exact absurd hk (hno v (E6 hv) k)
 case low=>omega
 case ne=>omega
 case inG=>exact⟨by omega,by omega,by omega,fun v hv k hk=>absurd hk (hno v hv k)⟩
 case old=>exact fun k hk=>hk.2
 case few=>exact⟨by simpa using hN,fun l hl=>by simp at hl;simp[hl.2],fun l hl=>by simp at hl;simp[hl.2]⟩
def Zbx(N:Nat):Gj:=(List.replicate N (Value.slice none 0 0)).toArray
theorem Zhk(N:Nat)(hN:N<=4096)(m:Int)(hm:m=(N:Int))(W:Gy):(Instr.makeSlice 198 (Qi m) (Qi m)).run Tryz.prog W= .ok (.slice (some ⟨W.heap.size,0,none⟩) N N) (W.alloc (.cells (Zbx N) 206)):=by
 subst hm;unfold Zbx;rw[<-ZpW];exact Zlu W ZqO (z:= .slice none 0 0) (by kernel_rfl) N (by omega) (by omega)
theorem Zey(w:Gy)(N a b:Nat)(w':Gy)(e:((w.alloc (.cells (Zbx N) 206)).alloc (.cells (Zbx N) 206)).alloc (.cells #[.slice (some ⟨a,0,none⟩) N N,.slice (some ⟨b,0,none⟩) N N,Qi 0] 200)=w')(hN:N<=4096)
  (hab:(a=w.heap.size∧b=w.heap.size+1)∨(a=w.heap.size+1∧b=w.heap.size)):Zsf w N (.returned (.pointer (some ⟨w.heap.size+1+1,0,none⟩))) w'.drew:=by
 subst e;have e2:Blk ((w.alloc (.cells (Zbx N) 206)).alloc (.cells (Zbx N) 206)) (w.alloc (.cells (Zbx N) 206)).heap.size 206 (List.replicate N (.slice none 0 0)):=Gh _ _ _;have e3:=Gh ((w.alloc (.cells (Zbx N) 206)).alloc (.cells (Zbx N) 206)) 200 [.slice (some ⟨a,0,none⟩) N N,.slice (some ⟨b,0,none⟩) N N,Qi 0];rw[show(w.alloc (.cells (Zbx N) 206)).heap.size=w.heap.size+1 by simp]at e2;rw[show((w.alloc (.cells (Zbx N) 206)).alloc (.cells (Zbx N) 206)).heap.size=w.heap.size+2 by simp]at e3;refine Ztl w N hN a b hab _ ((((Gg No w).alloc _).alloc _).alloc _).drew (by simp[World.drew]) ?_ ?_ ?_
 ·exact((Gh w 206 (List.replicate N (.slice none 0 0))).alloc _).alloc _
 ·exact e2.alloc _
 ·exact e3
theorem Zwr(w:Gy)(n:Int):Calls Tryz.prog 107 #[Qi n] w (Zsf w (Zdy n)):=by
 obtain⟨N,iS⟩:=Qe (Zdy n);have ei:N<=4096:=by rw[<-iS];exact ZqZ n
 have HN:=Qh iS;have Ap:=Zhk N ei (min (max n 0) 4096) (by rw[<-iS];unfold Zdy;omega)
 by_cases h1:n<0
 ·have nZ:=Zhk N ei 0 (by rw[<-iS];unfold Zdy;omega);clear iS;go_enter Tryz.func107,Tryz.ntmps107;go_wp2;refine wpS (fun _=>True) ?_ fun jH=>?_
  ·(trivial)
  refine wpK 0 rfl ?_;refine wpK 2 rfl ?_;refine wpR [1,3] ?_;refine wpC rfl (fun K hK=>?_) ?_
  ·go_simp;refine hK.out _ _ ?_ fun jH=>?_
   ·(trivial)
   try simp only[Qa]
   refine wpZ 3 rfl fun K hK=>?_;go_simp;refine hK.out _ _ ?_ fun jH=>?_
   ·(trivial)
   try simp only[Qa]
   refine wpK 4 rfl ?_;refine wpZ 5 rfl fun K hK=>?_;go_simp;refine hK.out _ _ ?_ fun jH=>?_
   ·(trivial)
   try simp only[Qa]
   refine wpK 6 rfl ?_;refine wpD (Gd ?_);go_wp2;go_ret;rw[HN.out];refine Zey w N _ _ _ rfl ei ?_;simp
  refine wpC rfl (fun K hK=>?_) AllReadyH.nil;go_simp;refine hK.out _ _ ?_ fun jH=>?_
  ·(trivial)
  try simp only[Qa]
  refine wpZ 1 rfl fun K hK=>?_;go_simp;refine hK.out _ _ ?_ fun jH=>?_
  ·(trivial)
  try simp only[Qa]
  refine wpK 4 rfl ?_;refine wpZ 5 rfl fun K hK=>?_;go_simp;refine hK.out _ _ ?_ fun jH=>?_
  ·(trivial)
  try simp only[Qa]
  refine wpK 6 rfl ?_;refine wpD (Gd ?_);go_wp2;go_ret;rw[HN.out];refine Zey w N _ _ _ rfl ei ?_;simp
 ·by_cases h2:4096<n
  ·have nZ:=Zhk N ei 4096 (by rw[<-iS];unfold Zdy;omega);clear iS;go_enter Tryz.func107,Tryz.ntmps107;go_wp2;refine wpS (fun _=>True) ?_ fun jH=>?_
   ·(trivial)
   refine wpK 0 rfl ?_;refine wpK 2 rfl ?_;refine wpR [1,3] ?_;refine wpC rfl (fun K hK=>?_) ?_
   ·go_simp;refine hK.out _ _ ?_ fun jH=>?_
    ·(trivial)
    try simp only[Qa]
    refine wpZ 3 rfl fun K hK=>?_;go_simp;refine hK.out _ _ ?_ fun jH=>?_
    ·(trivial)
    try simp only[Qa]
    refine wpK 4 rfl ?_;refine wpZ 5 rfl fun K hK=>?_;go_simp;refine hK.out _ _ ?_ fun jH=>?_
    ·(trivial)
    try simp only[Qa]
    refine wpK 6 rfl ?_;refine wpD (Gd ?_);go_wp2;go_ret;rw[HN.out];refine Zey w N _ _ _ rfl ei ?_;simp
   refine wpC rfl (fun K hK=>?_) AllReadyH.nil;go_simp;refine hK.out _ _ ?_ fun jH=>?_
   ·(trivial)
   try simp only[Qa]
   refine wpZ 1 rfl fun K hK=>?_;go_simp;refine hK.out _ _ ?_ fun jH=>?_
   ·(trivial)
   try simp only[Qa]
   refine wpK 4 rfl ?_;refine wpZ 5 rfl fun K hK=>?_;go_simp;refine hK.out _ _ ?_ fun jH=>?_
   ·(trivial)
   try simp only[Qa]
   refine wpK 6 rfl ?_;refine wpD (Gd ?_);go_wp2;go_ret;rw[HN.out];refine Zey w N _ _ _ rfl ei ?_;simp
  ·have nZ:=Zhk N ei n (by rw[<-iS];unfold Zdy;omega);clear iS;go_enter Tryz.func107,Tryz.ntmps107;go_wp2;refine wpS (fun _=>True) ?_ fun jH=>?_
   ·(trivial)
   refine wpK 0 rfl ?_;refine wpK 2 rfl ?_;refine wpR [1,3] ?_;refine wpC rfl (fun K hK=>?_) ?_
   ·go_simp;refine hK.out _ _ ?_ fun jH=>?_
    ·(trivial)
    try simp only[Qa]
    refine wpZ 3 rfl fun K hK=>?_;go_simp;refine hK.out _ _ ?_ fun jH=>?_
    ·(trivial)
    try simp only[Qa]
    refine wpK 4 rfl ?_;refine wpZ 5 rfl fun K hK=>?_;go_simp;refine hK.out _ _ ?_ fun jH=>?_
    ·(trivial)
    try simp only[Qa]
    refine wpK 6 rfl ?_;refine wpD (Gd ?_);go_wp2;go_ret;rw[HN.out];refine Zey w N _ _ _ rfl ei ?_;simp
   refine wpC rfl (fun K hK=>?_) AllReadyH.nil;go_simp;refine hK.out _ _ ?_ fun jH=>?_
   ·(trivial)
   try simp only[Qa]
   refine wpZ 1 rfl fun K hK=>?_;go_simp;refine hK.out _ _ ?_ fun jH=>?_
   ·(trivial)
   try simp only[Qa]
   refine wpK 4 rfl ?_;refine wpZ 5 rfl fun K hK=>?_;go_simp;refine hK.out _ _ ?_ fun jH=>?_
   ·(trivial)
   try simp only[Qa]
   refine wpK 6 rfl ?_;refine wpD (Gd ?_);go_wp2;go_ret;rw[HN.out];refine Zey w N _ _ _ rfl ei ?_;simp
/- Digraphs:masks. -/
def Zj(mask kind:Int):Bool:=decide ((mask/2 ^ kind.toNat)%2=1)
theorem Zhw(x:Int)(y:Nat)(hy:y<=8):bits .and .i64 x (y:Int)=(((x%18446744073709551616).toNat &&& y:Nat):Int):=by
 change IntKind.i64.wrap (((BitVec.ofInt 64 x &&& BitVec.ofInt 64 (y:Int)).toNat:Nat):Int)=_;have h1:(BitVec.ofInt 64 x).toNat=(x%18446744073709551616).toNat:=by rw[BitVec.toNat_ofInt];rfl
 have h2:(BitVec.ofInt 64 (y:Int)).toNat=y:=by rw[BitVec.toNat_ofInt];omega
 rw[BitVec.toNat_and,h1,h2];have h3:(x%18446744073709551616).toNat &&& y<=y:=Nat.and_le_right;exact IntWalk.i64_in _ (by omega)
theorem Zr4(x:Int):(bits .and .i64 x 1==1)=decide (x%2=1):=by
 have h:=Zhw x 1 (by omega);rw[Nat.and_one_is_mod]at h;have h':bits .and .i64 x 1=(((x%18446744073709551616).toNat%2:Nat):Int):=h;rw[h',Bool.eq_iff_iff,beq_iff_eq,Ff];omega
theorem ZvT(n y:Nat)(e:(2 ^ 4-1) &&& y=y):n &&& y=(n%16) &&& y:=by
 have h:=Nat.and_two_pow_sub_one_eq_mod n 4;rw[show(16:Nat)=2 ^ 4 from rfl,<-h,Nat.and_assoc,e]
theorem Zn5:∀r:Fin 16,((r.1 &&& 2=0)↔r.1/2%2=0)∧((r.1 &&& 4=0)↔r.1/4%2=0)∧((r.1 &&& 8=0)↔r.1/8%2=0):=by decide
theorem Zmz(x:Int)(y:Nat)(hy:y<=8)(e:(2 ^ 4-1) &&& y=y)(b:Bool)(h:((x%18446744073709551616).toNat%16 &&& y=0)↔b=false):(bits .and .i64 x (y:Int) != 0)=b:=by
 rw[Zhw x y hy,ZvT _ y e,Bool.eq_iff_iff];simp only[bne_iff_ne,ne_eq]
 cases b
 ·simp only[Bool.false_eq_true,iff_false,Decidable.not_not];have:=h.2 rfl;omega
 ·simp only[iff_true];intro hz;have:=h.1 (by omega)
  cases this
theorem Zsa(x:Int):(bits .and .i64 x 2 != 0)=Zj x 1:=by
 refine Zmz x 2 (by omega) (by decide) _ ?_;rw[(Zn5 ⟨(x%18446744073709551616).toNat%16,Nat.mod_lt _ (by omega)⟩).1];unfold Zj;rw[decide_eq_false_iff_not]
 show _↔¬(x/2)%2=1
 simp only;omega
theorem Zr9(x:Int):(bits .and .i64 x 4 != 0)=Zj x 2:=by
 refine Zmz x 4 (by omega) (by decide) _ ?_;rw[(Zn5 ⟨(x%18446744073709551616).toNat%16,Nat.mod_lt _ (by omega)⟩).2.1];unfold Zj;rw[decide_eq_false_iff_not]
 show _↔¬(x/4)%2=1
 simp only;omega
theorem Zr8(x:Int):(bits .and .i64 x 8 != 0)=Zj x 3:=by
 refine Zmz x 8 (by omega) (by decide) _ ?_;rw[(Zn5 ⟨(x%18446744073709551616).toNat%16,Nat.mod_lt _ (by omega)⟩).2.2];unfold Zj;rw[decide_eq_false_iff_not]
 show _↔¬(x/8)%2=1
 simp only;omega
theorem dof(w:Gy)(mask kind:Int)(h1:1<=kind)(h2:kind<=3):CE 150 #[Qi mask,Qi kind] w (.bool (Zj mask kind)):=by
 have hk:kind=1∨kind=2∨kind=3:=by omega
 clear h1 h2;rcases hk with rfl|rfl|rfl
 all_goals
  go_enter Tryz.func150,Tryz.ntmps150;go_wp2;go_ret;exact⟨congrArg (fun b=>Ending.returned (.bool b)) (Zr4 _),rfl⟩
