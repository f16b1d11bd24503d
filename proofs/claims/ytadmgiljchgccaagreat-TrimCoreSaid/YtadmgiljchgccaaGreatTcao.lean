/- Digraphs: an end put among others. -/
import Derived.Lib.Overlaps
import Derived.Test.YtadmgiljchgccaaGreatTcag
import Derived.Test.YtadmgiljchgccaaGreatTcai
namespace Go.Proofs.YtadmgiljchgccaaGreat
open Go.RowKit
set_option linter.unusedVariables false
set_option linter.unusedSimpArgs false
set_option maxRecDepth 100000
set_option maxHeartbeats 8000000
theorem Zar:SlT Tryz.prog 163 160 3 24:=SlT.mk_ Tryz.underlying163 (z:= .agg #[Qi 0,Qi 0,Qi 0]) (by kernel_rfl) rfl (by omega)
theorem Zk3{l:Iq}:∀r∈l.map DEnd.cells,r.length=3:=fun r hr=>by
 obtain⟨e,_,rfl⟩:=Ih.1 hr;rfl
theorem Zk2{l:Iq}:∀v∈(l.map DEnd.cells).flatten,v.oneCell'=true:=fun v hv=>by
 obtain⟨r,hr,h⟩:=List.mem_flatten.1 hv;obtain⟨e,_,rfl⟩:=Ih.1 hr;simp only[DEnd.cells,Ie,G6,or_false]at h;rcases h with rfl|rfl|rfl<;>rfl
theorem Zbo(l:Iq):(l.map DEnd.cells).flatten.length=l.length*3:=by
 have:=Zdl (rows:=l.map DEnd.cells) (size:=3) Zk3
 rwa [Hw]at this
theorem Zpq(l:Iq)(i:Nat)(hi:i<=l.length):(l.map DEnd.cells).flatten.take (i*3)=((l.take i).map DEnd.cells).flatten:=by
 conv=>lhs;rw[<-List.take_append_drop i l,Hu,List.flatten_append]
 rw[Gc (by rw[Zbo,Hm,Nat.min_eq_left hi];omega),List.take_of_length_le (by rw[Zbo,Hm,Nat.min_eq_left hi];omega)]
theorem Zpr(l:Iq)(i:Nat)(hi:i<=l.length):(l.map DEnd.cells).flatten.drop (i*3)=((l.drop i).map DEnd.cells).flatten:=by
 conv=>lhs;rw[<-List.take_append_drop i l,Hu,List.flatten_append]
 rw[List.drop_append,List.drop_of_length_le (by rw[Zbo,Hm,Nat.min_eq_left hi];omega),Zbo,Hm,Nat.min_eq_left hi,Nat.sub_self];rfl
theorem Zcl(g o j:Nat):(⟨g,o,none⟩:Addr).add j=⟨g,o+j,none⟩:=by unfold Addr.add;split<;>simp_all
theorem dov{W:I0}{vb g:Nat}{c1 c2:Ip}{t1 t2:Iy}(h1:Blk W vb t1 c1)(h2:Blk W g t2 c2)(hne:vb≠g)(hc:c2≠[])(o la ca lb cb:Nat):
  (callFunc 228 #[.slice (some ⟨vb,0,none⟩) la ca,.slice (some ⟨g,o,none⟩) lb cb]).run Tryz.prog W= .ok (.value (.bool false)) W:=by
 rw[run_callFunc_extern Tryz.func228 (by kernel_rfl) (by kernel_rfl) (by kernel_rfl) (e:=Extern.SlicesOverlaps.overlaps #[163,163] #[4]) (by kernel_rfl)];unfold Blk at h1 h2
 rw[Lib.run_overlaps_apart W 163 4 160 Tryz.underlying163 3 Tryz.sizeOf160 ⟨vb,0,none⟩ ⟨g,o,none⟩ la ca lb cb hne t1 t2 c1.length c2.length
  (by simp[World.shape?,h1]) (by simp[World.shape?,h2]) (by intro e;exact hc (Gd e)) (frozen_of_row W vb 0 _ t1 h1) (frozen_of_row W vb _ _ t1 h1)]
 rfl
def ZwL(w:I0)(base:Nat)(v:Iz)(l:Iq)(e:Ending)(w':I0):Prop:=
 ∃A' c',e= .returned (.slice A' l.length c')∧w'.ownsRow base 160 3 (.slice A' l.length c') l.length (l.map DEnd.cells).flatten∧Upd (Own v) w w'∧Grew w v (.slice A' l.length c')
def Zcv(l:Iq)(i:Nat)(x:DEnd):Iq:=l.take i++[x]++l.drop i
theorem Zdw(l:Iq)(i:Nat)(x:DEnd)(hi:i<=l.length):(Zcv l i x).length=l.length+1:=by
 unfold Zcv;simp;omega
theorem Zmv{R1 R2:Ip}(l:Iq)(i:Nat)(x:DEnd)(hi:i<=l.length){cur:Ip}(h:cur=((l.take i).map DEnd.cells).flatten++x.cells++((l.drop i).map DEnd.cells).flatten++R2):
  cur.take ((l.length+1)*3)=((Zcv l i x).map DEnd.cells).flatten:=by
 subst h;have e:((Zcv l i x).map DEnd.cells).flatten=((l.take i).map DEnd.cells).flatten++x.cells++((l.drop i).map DEnd.cells).flatten:=by unfold Zcv;simp
 rw[<-e,Gc (by rw[Zbo,Zdw l i x hi];omega),List.take_of_length_le (by rw[Zbo,Zdw l i x hi];omega)]
theorem Zgo(g c s:Nat):Zd1 (some ⟨g,0,none⟩) c 0 s=some ⟨g,0,none⟩:=by unfold Zd1;split<;>simp[Addr.add]
theorem ZdQ{g c i s:Nat}(h:¬c=i):Zd1 (some ⟨g,0,none⟩) c i s=some ⟨g,i*s,none⟩:=by unfold Zd1;rw[if_neg h];simp[Zcl]
theorem Zsl{cur cs E:Ip}{i n c:Nat}(hi:i<n)(hc:n+1<=c)(hl:cur.length=c*3)(cf:cs=(cur.take (n*3)).drop (i*3))(hE:E.length=3):
  (cur.take ((i+1)*3)++cs++cur.drop ((i+1)*3+cs.length)).take (i*3)++E++(cur.take ((i+1)*3)++cs++cur.drop ((i+1)*3+cs.length)).drop (i*3+E.length)=cur.take (i*3)++E++cs++cur.drop ((i+1)*3+cs.length):=by
 have h1:(cur.take ((i+1)*3)).length=(i+1)*3:=by rw[Hm,Nat.min_eq_left (by omega)]
 rw[Gx (cur.take ((i+1)*3)),Gc (by omega),List.take_take,Nat.min_eq_left (by omega),List.drop_append,List.drop_of_length_le (by omega),h1,show i*3+E.length-(i+1)*3=0 by omega];simp
theorem Ztg{A Z cs E:Ip}{i:Nat}(hA:A.length=i*3)(hE:E.length=3)(hZ:3<=Z.length):
  ((A++Z).take (i*3)++E++(A++Z).drop (i*3+E.length)).take ((i+1)*3)++cs++((A++Z).take (i*3)++E++(A++Z).drop (i*3+E.length)).drop ((i+1)*3+cs.length)=A++E++cs++((A++Z).drop (i*3+3)).drop cs.length:=by
 have h1:(A++Z).take (i*3)=A:=by rw[<-hA];simp
 have h2:(A++E).length=(i+1)*3:=by rw[Gt];omega
 rw[h1,hE,Gc (by omega),List.take_of_length_le (by omega),List.drop_append,List.drop_of_length_le (by omega),h2,show(i+1)*3+cs.length-(i+1)*3=cs.length by omega];simp
theorem ZmQ(x:DEnd):∀v∈x.cells,v.oneCell'=true:=by
 intro v hv;simp only[DEnd.cells,Ie,G6,or_false]at hv;rcases hv with rfl|rfl|rfl<;>rfl
theorem Zyi(w:I0)(base:Nat)(A:OA)(c:Nat)(l:Iq)(i:Nat)(x:DEnd)(vb:Nat)(ae:w.ownsRow base 160 3 (.slice A l.length c) l.length (l.map DEnd.cells).flatten)
  (hv:Blk w vb 160 x.cells) (kZ:¬Own (.slice A l.length c) vb) (hi:i<=l.length) (hl:l.length<=100000) (a7:base<=w.heap.size):
  Calls Tryz.prog 183 #[.slice A l.length c,Qi (i:Int),.slice (some ⟨vb,0,none⟩) 1 1] w (ZwL w base (.slice A l.length c) (Zcv l i x)):=by
 have cR:=Zdw l i x hi;have cT:=Zbq ae
 by_cases hin:i=l.length
 ·have hcut:=fun W=>Za5 W Zar A l.length c i (by omega)
  have aV:((i:Int)==(l.length:Int))=true:=by rw[beq_iff_eq];omega
  have b0:(0:Int)<=(i:Int):=Qn _;have b1:(i:Int)<=(l.length:Int):=by omega
  have my:((Zcv l i x).map DEnd.cells).flatten=(l.map DEnd.cells).flatten++x.cells:=by
   unfold Zcv;rw[hin,G7,G9];simp
  have HF:=Qh my;have HI:=Qh cR;have bu:Src w (some ⟨vb,0,none⟩) 1 3 x.cells:=⟨rfl,fun _=>⟨⟨vb,0,none⟩,rfl,fun j v hj=>by rw[Zcl,Nat.zero_add,hv.cell];exact hj⟩⟩;have HS:=Qh bu;have HO:=Qh ae;clear hin my cR bu;go_enter Tryz.func183,Tryz.ntmps183;go_wp2_with (at_builtin;refine Ziq rfl rfl Zar (v:= .slice A l.length c) (n:=l.length) (m:=1) (news:=x.cells) rfl rfl HO.out HS.out (by intro v hv;simp only[DEnd.cells,Ie,G6,or_false]at hv;rcases hv with rfl|rfl|rfl<;>rfl) (by omega) (by omega) a7 ?_);intro v4 w4 aF hu4 dd;obtain⟨A4,c4,rfl⟩:=Zaz aF;go_wp2;go_ret;refine⟨A4,c4,by rw[HI.out];rfl,?_,hu4,?_⟩
  ·rw[HI.out,HF.out];exact aF
  ·rw[HI.out];exact dd
 ·have hi2:i<l.length:=by omega
  have aA:0<l.length:=by omega
  obtain⟨g,cur,rfl,iL,hB,bG,aT,gL,eK⟩:=Zbz ae aA;have pk:vb≠g:=fun e=>kZ (by subst e;rfl)
  have cf:((l.drop i).map DEnd.cells).flatten=(cur.take (l.length*3)).drop (i*3):=by rw[gL,Zpr l i hi]
  have gq:((l.drop i).map DEnd.cells).flatten.length=(l.length-i)*3:=by rw[Zbo,G5]
  have bi:cur.take (i*3)=((l.take i).map DEnd.cells).flatten:=by rw[<-Zpq l i hi,<-gL,List.take_take,Nat.min_eq_left (by omega)]
  have aV:((i:Int)==(l.length:Int))=false:=by rw[beq_eq_false_iff_ne];omega
  have b0:(0:Int)<=(i:Int):=Qn _;have b1:(i:Int)<(l.length:Int):=by omega
  have b2:(l.length:Int)<=100000:=by omega
  have b3:(l.length:Int)<=(c:Int):=by omega
  have j5:¬c=i:=by omega
  have k1:∀W,(Instr.slice 163 (.slice (some ⟨g,0,none⟩) l.length c) (some (Qi (i:Int))) none none).run Tryz.prog W= .ok (.slice (some ⟨g,i*3,none⟩) (l.length-i) (c-i)) W:=fun W=>by
   have:=Za5 W Zar (some ⟨g,0,none⟩) l.length c i (by omega)
   rwa [ZdQ j5]at this
  have iR:∀W:I0,W.heap[g]? =w.heap[g]?->∀(j:Nat) v,((l.drop i).map DEnd.cells).flatten[j]? =some v->W.cell? ((⟨g,i*3,none⟩:Addr).add j)=some v:=fun W hW j v hj=>by
   have y8:Blk W g 160 cur:=hW.trans hB;rw[Zcl,y8.cell];rw[cf,List.getElem?_drop,List.getElem?_take]at hj
   split at hj
   ·exact hj
   ·cases hj
  have iI:∀W:I0,W.heap[vb]? =w.heap[vb]?->∀(j:Nat) v,x.cells[j]? =some v->W.cell? ((⟨vb,0,none⟩:Addr).add j)=some v:=fun W hW j v hj=>by
   have y8:Blk W vb 160 x.cells:=hW.trans hv;rw[Zcl,Nat.zero_add,y8.cell];exact hj
  by_cases hroom:l.length+1<=c
  ·have x6:¬c=i+1:=by omega
   have b4:¬(c:Int)<(l.length:Int)+1:=by omega
   have k2:∀W,(Instr.slice 163 (.slice (some ⟨g,0,none⟩) l.length c) none (some (Qi ((l.length:Int)+1))) none).run Tryz.prog W= .ok (.slice (some ⟨g,0,none⟩) (l.length+1) c) W:=fun W=>by
    have:=ZbZ W Zar (some ⟨g,0,none⟩) l.length c (l.length+1) hroom
    rwa [Zgo]at this
   have k3:∀W,(Instr.slice 163 (.slice (some ⟨g,0,none⟩) (l.length+1) c) (some (Qi ((i:Int)+1))) none none).run Tryz.prog W= .ok (.slice (some ⟨g,(i+1)*3,none⟩) (l.length-i) (c-(i+1))) W:=fun W=>by
    have:=Za5 W Zar (some ⟨g,0,none⟩) (l.length+1) c (i+1) (by omega)
    rwa [ZdQ x6,show l.length+1-(i+1)=l.length-i by omega]at this
   have k4:∀W,(Instr.slice 163 (.slice (some ⟨g,0,none⟩) (l.length+1) c) (some (Qi (i:Int))) none none).run Tryz.prog W= .ok (.slice (some ⟨g,i*3,none⟩) (l.length+1-i) (c-i)) W:=fun W=>by
    have:=Za5 W Zar (some ⟨g,0,none⟩) (l.length+1) c i (by omega)
    rwa [ZdQ j5]at this
   have hov:=dov hv hB pk (by intro e;rw[e]at aT;simp at aT;omega) ((i+1)*3) 1 1 (l.length-i) (c-(i+1));have HS:=Qh iR;have xR:=Qh iI;have HB:=Qh hB;have cS:=Qh gq;have ss:=Qh (Zsl (E:=x.cells) hi2 hroom aT cf rfl);have ij:=Qh bi;have HI:=Qh cR;have lK:=Qh aT;have EG:=Qh hov;have kM:=Qh hv.lt;clear iR iI cf gq bi cR gL aT ae hv kZ hB;go_enter Tryz.func183,Tryz.ntmps183;have hov:=EG.out;have b5:IntKind.i64.wrap ((i:Int)+1)=(i:Int)+1:=IntWalk.i64_in _ (by omega);have b6:(0:Int)<=(i:Int)+1:=by omega
   go_wp2;refine wpS (fun w'=>Upd (One g) w w') ?_ fun jH=>?_
   ·(first|exact(Il _ _).drew|exact cC)
   (iterate 8 refine wpF ?_);refine wpZ 8 rfl fun K hK=>?_
   (first
  |(refine ZfS rfl rfl Zar (g:=g) (off:=(i+1)*3) (n:=l.length-i) (cs:=((l.drop i).map DEnd.cells).flatten) rfl rfl (show Blk _ g 160 cur from HB.out) (by simp only[Nat.min_def];split<;>omega) cS.out (HS.out _ rfl) (by rw[cS.out,lK.out];omega) Zk2 ?_;intro w5 jY hu5;have cC:Upd (One g) w w5:=hu5.of_drew))
   refine hK.out _ _ ?_ fun jH=>?_
   ·(first|exact(Il _ _).drew|exact cC)
   try simp only[Qa]
   refine wpD (Ii ?_);have cF:=Qh cC;have jP:=Qh jY;clear jH cC hu5 jY hov b5;go_wp2_with (refine ZhJ rfl rfl Zar (g:=g) (off:=i*3) (n:=1) (cs:=x.cells) rfl rfl jP.out (by simp only[Nat.min_def];split<;>omega) rfl (xR.out _ (cF.out.block vb kM.out pk)) (by simp only[Gt,Hm,G5,cS.out,lK.out];rw[Nat.min_eq_left (by omega)];show i*3+3<=_;omega) (ZmQ x) ?_;intro w6 fx hu6);rw[ss.out]at fx;have aw:=cF.out.trans hu6;go_ret
   have ar:=Zbh (size:=3) (n:=l.length+1) (xs:=((Zcv l i x).map DEnd.cells).flatten) fx iL hroom (by
    simp only[Gt,Hm,G5,cS.out,lK.out];rw[Nat.min_eq_left (by omega)]
    show i*3+3+_+_=_
    omega) (by rw[ij.out];exact Zmv (R1:=[]) l i x hi rfl) eK (by rw[Zbo,HI.out])
   refine⟨some ⟨g,0,none⟩,c,by rw[HI.out];rfl,?_,aw.mono (fun j _ e=>by cases e;rfl),.inl rfl⟩;rw[HI.out];exact ar
  ·have b4:(c:Int)<(l.length:Int)+1:=by omega
   have hk:((l.length:Int)+1-(i:Int))=((l.length+1-i:Nat):Int):=by omega
   have k5:∀W,(Instr.slice 163 (.slice (some ⟨g,0,none⟩) l.length c) none (some (Qi (i:Int))) none).run Tryz.prog W= .ok (.slice (some ⟨g,0,none⟩) i c) W:=fun W=>by
    have:=ZbZ W Zar (some ⟨g,0,none⟩) l.length c i (by omega)
    rwa [Zgo]at this
   have hold:∀(j:Nat) v,((l.take i).map DEnd.cells).flatten[j]? =some v->w.cell? ⟨g,j,none⟩=some v:=fun j v hj=>by
    rw[hB.cell];rw[<-bi,List.getElem?_take]at hj
    split at hj
    ·exact hj
    ·cases hj
   have Aw:((l.take i).map DEnd.cells).flatten.length=i*3:=by rw[Zbo,Hm,Nat.min_eq_left (by omega)]
   have HS:=Qh iR;have xR:=Qh iI;have fO:=Qh hB.lt;have cS:=Qh gq;have HI:=Qh cR;have vx:=Qh hold;have sJ:=Qh Aw;have kM:=Qh hv.lt;have HK:=Qh (show i+(l.length+1-i)=l.length+1 by omega);clear iR iI cf gq bi cR gL aT ae hv kZ hB hold Aw;go_enter Tryz.func183,Tryz.ntmps183
   have k6:∀(c':Nat) W,l.length+1<=c'->(Instr.slice 163 (.slice (some ⟨w.heap.size,0,none⟩) (l.length+1) c') (some (Qi (i:Int))) none none).run Tryz.prog W= .ok (.slice (some ⟨w.heap.size,i*3,none⟩) (l.length+1-i) (c'-i)) W:=fun c' W hc'=>by
    have:=Za5 W Zar (some ⟨w.heap.size,0,none⟩) (l.length+1) c' i (by omega)
    rwa [ZdQ (by omega)]at this
   have k7:∀(c':Nat) W,l.length+1<=c'->(Instr.slice 163 (.slice (some ⟨w.heap.size,0,none⟩) (l.length+1) c') (some (Qi ((i:Int)+1))) none none).run Tryz.prog W= .ok (.slice (some ⟨w.heap.size,(i+1)*3,none⟩) (l.length-i) (c'-(i+1))) W:=fun c' W hc'=>by
    have:=Za5 W Zar (some ⟨w.heap.size,0,none⟩) (l.length+1) c' (i+1) (by omega)
    rwa [ZdQ (by omega),show l.length+1-(i+1)=l.length-i by omega]at this
   have b5:IntKind.i64.wrap ((i:Int)+1)=(i:Int)+1:=IntWalk.i64_in _ (by omega);have b6:(0:Int)<=(i:Int)+1:=by omega
   have Fv:i+(l.length+1-i)=l.length+1:=HK.out
   go_wp2_with (first
    |(at_builtin;refine Zr3 rfl rfl Zar Tryz.underlying3 (g:=g) (n:=i) (c:=c) (k:=l.length+1-i) rfl rfl sJ.out vx.out (by omega) (by omega) (by omega) (by omega) ?_;intro c5 zs w5 Az fR jY me hu5;rw[HK.out]at Az;have jP:=Qh jY;have mO:=Qh me;clear jY me)
    |(refine ZhJ rfl rfl Zar (g:=w.heap.size) (off:=i*3) (n:=1) (cs:=x.cells) rfl rfl jP.out (by simp only[Nat.min_def];split<;>omega) rfl (xR.out _ (hu5.block vb kM.out id)) (by rw[mO.out];show i*3+3<=_;omega) (ZmQ x) ?_;intro w6 fx hu6;have cG:=Qh fx;clear fx))
   have k8:=HS.out w6 ((hu6.block g (Gu fO.out hu5.size) (by intro e;have:=fO.out;cases e;omega)).trans (hu5.block g fO.out id));have ug:=Qh k8
   have dM:((((l.take i).map DEnd.cells).flatten++zs).take (i*3)++x.cells++(((l.take i).map DEnd.cells).flatten++zs).drop (i*3+x.cells.length)).length=c5*3:=by
    have h5:=mO.out;simp only[Gt,Hm,G5]at h5 ⊢
    show _+3+(_-(i*3+3))=_
    omega
   have mX:=Qh dM;clear k8 dM;refine wpS (fun w'=>Upd (One w.heap.size) w6 w') ?_ fun jH=>?_
   ·(first|exact(Il _ _).drew|exact az)
   (iterate 8 refine wpF ?_);refine wpZ 8 rfl fun K hK=>?_
   (first
  |(refine ZfS rfl rfl Zar (g:=w.heap.size) (off:=(i+1)*3) (n:=l.length-i) (cs:=((l.drop i).map DEnd.cells).flatten) rfl rfl (show Blk _ w.heap.size 160 _ from cG.out) (by simp only[Nat.min_def];split<;>omega) cS.out ug.out (by rw[mX.out,cS.out];omega) Zk2 ?_;intro w7 AU aq;have az:Upd (One w.heap.size) w6 w7:=aq.of_drew))
   refine hK.out _ _ ?_ fun jH=>?_
   ·(first|exact(Il _ _).drew|exact az)
   try simp only[Qa]
   refine wpD (Ii ?_);have cP:=AU
   have tY:3<=zs.length:=by
    have h5:=mO.out;rw[Gt,sJ.out]at h5;omega
   have AQ:=mX.out;rw[Ztg sJ.out rfl tY]at cP;have hU:=(hu5.mono (T:=One w.heap.size) (fun _ _ e=>e.elim)).trans (hu6.trans az);have H7:=Qh (And.intro cP hU);clear AU cP aq hU jH az k6 k7 hu6 hu5;go_wp2;go_ret
   have iS:=Zbh (size:=3) (n:=l.length+1) (xs:=((Zcv l i x).map DEnd.cells).flatten) H7.out.1 a7 Az (by
    have h5:=mO.out;simp only[Gt,G5,cS.out,sJ.out]at h5 ⊢
    show i*3+3+_+_=_
    omega) (Zmv (R1:=[]) l i x hi rfl) fR (by rw[Zbo,HI.out])
   refine⟨some ⟨w.heap.size,0,none⟩,c5,by rw[HI.out];rfl,?_,H7.out.2.trans_ (Il _ _) (fun _ _ e=>e) |>.mono (fun j hj e=>by cases e;omega),.inr ⟨_,rfl,Nat.le_refl _⟩⟩;rw[HI.out];exact iS
/- slices.DeleteFunc at orders:those that are empty go. -/
theorem Zmo(b o j:Nat):(⟨b,o,none⟩:Addr).add j=⟨b,o+j,none⟩:=by unfold Addr.add;split<;>simp_all
def ZaB(o:HOrd):Bool:=o.txs.length==0
def OrdsAt(F:Iw)(w:I0)(A:OA)(l:List HOrd):Prop:=Recs F w A 2 (l.map HOrd.cells)
theorem OrdsAt.at_{F:Iw}{w:I0}{A:OA}{l:List HOrd}(h:OrdsAt F w A l){k:Nat}(hk:k<l.length):∃ad,A=some ad∧
  w.cell? (ad.add (k*2))=some (Qi l[k].key)∧w.cell? ⟨(ad.add (k*2)).block,(ad.add (k*2)).off+1,none⟩=some (.slice l[k].A l[k].txs.length l[k].c):=by
 have dJ:k<(l.map HOrd.cells).length:=by simpa using hk
 obtain⟨ad,e,_,_,hc⟩:=Recs.at_ h dJ;rw[G8]at hc;exact⟨ad,e,by simpa using hc 0 _ rfl,by simpa using hc 1 _ rfl⟩
theorem OrdsAt.upd{F S:Iw}{w w':I0}{A:OA}{l:List HOrd}(h:OrdsAt F w A l)(k:Upd S w w')(hn:∀i,F i->¬S i):OrdsAt F w' A l:=Recs.upd h k hn
def Za9(l:List HOrd):Ip:=(l.map HOrd.cells).flatten
theorem ZhM:SlT Tryz.prog 23 68 2 32:=SlT.mk_ Tryz.underlying23 (z:= .agg #[Qi 0,.slice none 0 0]) (by kernel_rfl) rfl (by omega)
theorem Zku{l:List HOrd}:∀r∈l.map HOrd.cells,r.length=2:=fun r hr=>by
 obtain⟨e,_,rfl⟩:=Ih.1 hr;rfl
theorem Zdj(l:List HOrd):(Za9 l).length=l.length*2:=by
 have:=Zdl (rows:=l.map HOrd.cells) (size:=2) Zku
 rwa [Hw]at this
theorem Zrj{l:List HOrd}{p:HOrd->Bool}{j:Nat}{x:HOrd}(hj:j<l.length)(hx:l[j]=x)(h:p x=true):(l.take (j+1)).filter p=(l.take j).filter p++[x]:=by
 rw[Gb hj,List.filter_append,hx,List.filter_cons_of_pos h];rfl
theorem Ztj{l:List HOrd}{p:HOrd->Bool}{j:Nat}{x:HOrd}(hj:j<l.length)(hx:l[j]=x)(h:p x=false):(l.take (j+1)).filter p=(l.take j).filter p:=by
 rw[Gb hj,List.filter_append,hx,List.filter_cons_of_neg (by rw[h];decide)];simp
theorem ZrD(w:I0)(x:HOrd):CN 203 #[.agg #[Qi x.key,.slice x.A x.txs.length x.c]] w (.bool (ZaB x)):=by
 have b:=Im w 68 [Qi x.key,.slice x.A x.txs.length x.c];have u:=(Il No w).alloc (.cells #[Qi x.key,.slice x.A x.txs.length x.c] 68);have b1:=b.cell 1;simp only[Qz,Qs]at b1
 have hv:((x.txs.length:Int)==0)=ZaB x:=by
  unfold ZaB
  cases h:x.txs.length with
  |zero=>rfl
  |succ n=>rfl
 go_enter Tryz.func203,Tryz.ntmps203;go_wp2;go_ret;exact⟨by rw[<-hv];rfl,u⟩
def ZcR(l:List HOrd):Nat:=l.findIdx (ZaB)
def Zeu(l:List HOrd):Int:=if ZcR l<l.length then (ZcR l:Int) else -1
theorem Zqr{l:List HOrd}{k:Nat}(hk:k<l.length)(h:∀(j:Nat) (hj:j<k),ZaB (l[j]'(by omega))=false)(h1:ZaB l[k]=true):ZcR l=k:=by
 unfold ZcR;rw[List.findIdx_eq hk];exact⟨h1,fun j hj=>by simp only[h j hj]⟩
theorem ZoM{l:List HOrd}(h:∀(j:Nat) (hj:j<l.length),ZaB l[j]=false):ZcR l=l.length:=by
 unfold ZcR;rw[List.findIdx_eq_length];intro x hx;obtain⟨k,hk,rfl⟩:=Gl.1 hx;simp only[h k hk]
theorem Zv5(F:Iw)(w:I0)(B:OA)(d:Nat)(l:List HOrd)(H:OrdsAt F w B l)(hl:l.length<=1000000):
  CN 225 #[.slice B l.length d,.func (.func 203) #[] #[]] w (Qi (Zeu l)):=by
 go_enter Tryz.func225,Tryz.ntmps225;go_wp2
 go_loopg [8] l.length (fun gk s wr=>∃k:Nat,k+gk=l.length∧s= Qi k∧Hid (∀(j:Nat) (hj:j<l.length),j<k->ZaB l[j]=false)∧Upd No w wr)
 case atStart=>exact⟨0,by omega,rfl,Qh (fun j _ hj=>by omega),Il _ _⟩
 case round=>
  obtain⟨k,aI,rfl,ah,hu⟩:=hrel
  by_cases hlt:k<l.length
  ·obtain⟨ad,rfl,q0,q1⟩:=(H.upd hu Qo).at_ hlt;obtain⟨x,hx⟩:=Qe (l[k]);rw[hx]at q0 q1;have X:=Qh hx;have b2:(k:Int)<(l.length:Int):=by omega
   have b1:(0:Int)<=(k:Int):=Qn _;have HC:=Qh (ZrD wr x);unfold HOrd.cells at HC;clear hx
   by_cases he:ZaB x=true
   ·have aA:=Qh (show Zeu l=(k:Int) by unfold Zeu;rw[Zqr (l:=l) hlt (fun j hj=>ah.out j (by omega) hj) (by rw[X.out];exact he),if_pos hlt]);have He:=Qh he;clear he;go_wp2_with fail;refine(HC.out).mono ?_;rintro e w1 ⟨cX,hu1⟩;rw[He.out]at cX;subst cX;go_wp2;go_ret;exact⟨by rw[aA.out];rfl,hu.trans hu1⟩
   ·have iy:ZaB x=false:=by simpa using he
    have He:=Qh iy;clear he iy;go_wp2_with fail;refine(HC.out).mono ?_;rintro e w1 ⟨cX,hu1⟩;rw[He.out]at cX;subst cX;go_wp2;go_roundg (gk-1)
    case measure=>omega
    case rel=>exact⟨k+1,by omega,by go_num,Qh (fun j hj hjk=>by
      by_cases e:j=k
      ·subst e;rw[X.out];exact He.out
      ·exact ah.out j hj (by omega)),hu.trans hu1⟩
  ·obtain rfl:k=l.length:=by omega
   have aA:=Qh (show Zeu l= -1 by unfold Zeu;rw[ZoM (l:=l) fun j hj=>ah.out j hj hj,if_neg (by omega)]);go_wp2;go_ret;exact⟨by rw[aA.out];rfl,hu⟩
theorem Ze4(a:HOrd)(l:List HOrd):Za9 (a::l)=a.cells++Za9 l:=rfl
theorem ZhW(l m:List HOrd):Za9 (l++m)=Za9 l++Za9 m:=by unfold Za9;simp
theorem Zkt(l:List HOrd)(i:Nat):(Za9 l).take (i*2)=Za9 (l.take i):=by
 rcases Nat.lt_or_ge l.length i with h|h
 ·rw[List.take_of_length_le (by rw[Zdj];omega),List.take_of_length_le (by omega)]
 ·conv=>lhs;rw[<-List.take_append_drop i l,ZhW]
  rw[Gc (by rw[Zdj,Hm];omega),List.take_of_length_le (by rw[Zdj,Hm];omega)]
theorem ZsM{xs:List HOrd}{m n:Nat}{x:HOrd}{cs:Ip}(hm:m<n)(hn:xs.length=n)(hc:n*2<=cs.length)(h:cs.take (n*2)=Za9 xs):
  (cs.take (m*2)++x.cells++cs.drop (m*2+x.cells.length)).take (n*2)=Za9 (xs.set m x):=by
 have cf:cs=Za9 xs++cs.drop (n*2):=by rw[<-h,List.take_append_drop]
 have hl:x.cells.length=2:=rfl;have cA:xs=xs.take m++xs[m]'(by omega)::xs.drop (m+1):=by rw[<-Ge (by omega:m<xs.length),List.take_append_drop]
 have fh:xs.set m x=xs.take m++x::xs.drop (m+1):=by rw[List.set_eq_take_append_cons_drop,if_pos (by omega)]
 have e1:cs.take (m*2)=Za9 (xs.take m):=by
  rw[<-Zkt,<-h,List.take_take,Nat.min_eq_left (by omega)]
 have e2:cs.drop (m*2+2)=Za9 (xs.drop (m+1))++cs.drop (n*2):=by
  conv=>lhs;rw[cf,cA,ZhW,Ze4,<-Gx]
  rw[Gx (Za9 (xs.take m)++_),List.drop_append,List.drop_of_length_le (by rw[Gt,Zdj,Hm];show _+2<=_;omega)];have:m*2+2-(Za9 (List.take m xs)++(xs[m]'(by omega)).cells).length=0:=by rw[Gt,Zdj,Hm];show m*2+2-(_+2)=0;omega
  rw[this];simp
 rw[hl,e1,e2,fh,ZhW,Ze4,<-Gx,<-Gx];rw[Gc (by simp only[Gt,Zdj,hl,Hm,G5];omega),List.take_of_length_le (by simp only[Gt,Zdj,hl,Hm,G5];omega)]
theorem Zf4{w:I0}{g:Nat}{cs:Ip}{l:List HOrd}(hb:Blk w g 68 cs)(h:cs.take (l.length*2)=Za9 l):OrdsAt (fun i=>i=g) w (some ⟨g,0,none⟩) l:=by
 intro _;refine⟨_,rfl,rfl,hb.lt,fun i row hi j v hj=>?_⟩;have e1:(⟨g,0,none⟩:Addr).add (i*2+j)=⟨g,i*2+j,none⟩:=by unfold Addr.add;split<;>simp_all
 rw[e1,hb.cell];have h1:=Zd0 (size:=2) (rows:=l.map HOrd.cells) Zku hi hj;have h2:(cs.take (l.length*2))[i*2+j]? =some v:=by rw[h];exact h1
 rw[List.getElem?_take]at h2
 split at h2
 ·exact h2
 ·cases h2
def ZaJ(l:List HOrd):List HOrd:=l.filter fun x=> !ZaB x
theorem Zyb(w:I0)(ad:Addr)(g c:Nat)(ff:Hid (ad=⟨g,0,none⟩))(l:List HOrd)(cur:Ip)(hb:Blk w g 68 cur)(ht:cur.take (l.length*2)=Za9 l)(aT:cur.length=c*2)(mQ:l.length<=c)(hl:l.length<=1000000):
  Calls Tryz.prog 202 #[.slice (some ad) l.length c,.func (.func 203) #[] #[]] w fun e w'=>e= .returned (.slice (some ad) (ZaJ l).length c)∧(∃cs,Blk w' g 68 cs∧cs.take ((ZaJ l).length*2)=Za9 (ZaJ l))∧Upd (One g) w w':=by
 have hW:OrdsAt (fun i=>i=g) w (some ad) l:=by rw[ff.out];exact Zf4 hb ht
 have HI:=Qh (Zv5 (fun i=>i=g) w (some ad) c l hW hl)
 by_cases aA:ZcR l<l.length
 ·have fU:Zeu l=(ZcR l:Int):=by unfold Zeu;rw[if_pos aA]
  rw[fU]at HI;have gA:ZaB l[ZcR l]=true:=List.findIdx_getElem (p:=ZaB) (w:=aA)
  have cH:∀(j:Nat) (hj:j<ZcR l),ZaB (l[j]'(by omega))=false:=fun j hj=>by
   have:=List.not_of_lt_findIdx (p:=ZaB) (xs:=l) hj
   simpa using this
  obtain⟨k,hk⟩:=Qe (ZcR l);have gC:k<l.length:=by omega
  have bi:ZaJ (l.take (k+1))=l.take k:=by
   unfold ZaJ;rw[Gb gC,List.filter_append,List.filter_cons_of_neg (by rw[show ZaB l[k]=true by simpa[hk]using gA];decide)]
   rw[List.filter_eq_self.2 (fun x hx=>by
    obtain⟨j,hj,rfl⟩:=Gl.1 hx;rw[List.getElem_take,cH j (by rw[hk];simp at hj;omega)];rfl)]
   simp
  have mf:((k:Int)== -1)=false:=by rw[beq_eq_false_iff_ne];omega
  have zw:IntKind.i64.wrap ((k:Int)+1)=(k:Int)+1:=IntWalk.i64_in _ (by omega);rw[hk]at HI;have ij:=Qh bi;have HB:=Qh hb;have HT:=Qh ht;have cS:=Qh aT;clear fU gA cH aA hk bi hW hb ht aT;go_enter Tryz.func202,Tryz.ntmps202;go_wp2_with fail;refine Ck HI.out fun w1 hu1=>?_;have dq:=Qh (HB.out.upd hu1 id);have fF:Hid (Upd (One g) w w1):=Qh (hu1.mono (fun _ _ e=>e.elim));have dX:=Qh (List.length_take_of_le (Nat.le_of_lt gC):(l.take k).length=k);clear hu1;go_wp2
  go_loopg [5,6] (l.length-(k+1)) (fun gk si sj wr=>∃(m j:Nat) (xs:List HOrd) (cs:Ip),j+gk=l.length∧si= Qi m∧sj= Qi j∧m<j∧Hid (xs.length=l.length)∧Hid (xs.take m=ZaJ (l.take j)∧(ZaJ (l.take j)).length=m)∧Hid (xs.drop j=l.drop j)∧Hid (Blk wr g 68 cs)∧Hid (cs.take (l.length*2)=Za9 xs∧cs.length=c*2)∧Upd (One g) w wr)
  case atStart=>exact⟨k,k+1,l,cur,by omega,rfl,by go_num,by omega,Qh rfl,Qh ⟨ij.out.symm,by rw[ij.out];exact dX.out⟩,Qh rfl,dq,Qh ⟨HT.out,cS.out⟩,fF.out⟩
  case round=>
   obtain⟨m,j,xs,cs,aI,rfl,rfl,mH,eA,HM,HD,fV,dz,hu⟩:=hrel;have i0:(0:Int)<=(m:Int):=Qn _
   by_cases hlt:j<l.length
   ·obtain⟨x,hx⟩:=Qe (l[j]);have iM:j<xs.length:=by rw[eA.out];exact hlt
    have mn:xs[j]=x:=by
     have h1:=Ge iM;have h2:=Ge hlt;rw[HD.out,h2]at h1
     injection h1 with h1 _
     rw[<-h1,hx]
    have mh:OrdsAt (fun i=>i=g) wr (some ad) xs:=by rw[ff.out];exact Zf4 fV.out (by rw[eA.out];exact dz.out.1)
    obtain⟨ad',e',q0,q1⟩:=mh.at_ iM
    cases e'
    rw[mn]at q0 q1
    have lY:xs.drop (j+1)=l.drop (j+1):=by
     have h1:=Ge iM;have h2:=Ge hlt;rw[HD.out,h2]at h1
     injection h1 with _ h1
     exact h1.symm
    have l6:=Qh lY;have HX:=Qh hx;have i1:(0:Int)<=(j:Int):=Qn _;have i2:(j:Int)<(l.length:Int):=by omega
    have i3:(m:Int)<(l.length:Int):=by omega
    obtain⟨wx,aJ⟩:=Qe (wr.alloc (.cells #[Qi x.key,.slice x.A x.txs.length x.c] 68));have ux:Upd No wr wx:=by rw[<-aJ];exact(Il No wr).alloc _
    have bo:Blk wx wr.heap.size 68 [Qi x.key,.slice x.A x.txs.length x.c]:=by rw[<-aJ];exact Im wr _ _
    obtain⟨g0,g1⟩:=bo.c2;have HC:=Qh (ZrD wx x);have BO:=Qh bo;have UX:=Qh ux;unfold HOrd.cells at HC;clear hx iM mn mh lY bo ux HD
    cases hbx:ZaB x
    ·rw[hbx]at HC;have nS:=Qh hbx;clear hbx;go_wp2_with fail;refine Ck HC.out fun w2 hu2=>?_;have bo2:=BO.out.upd hu2 id;obtain⟨g0,g1⟩:=bo2.c2;have dR:=Qh ((fV.out.upd UX.out id).upd hu2 id);have de:=Qh (hu.trans ((UX.out.trans hu2).mono (fun _ _ e=>e.elim)));clear hu2 HC;go_wp2_with (refine Zhv rfl rfl (g:=g) (off:=m*2) (cells:=[Qi x.key,.slice x.A x.txs.length x.c]) rfl (by rw[ff.out,Zmo,Nat.zero_add]) rfl dR.out (by kernel_rfl) (by have:=dz.out.2;simp only[G1,Hv];omega) (by intro v hv;simp only[Ie,G6,or_false]at hv;rcases hv with rfl|rfl<;>rfl) ?_;intro w5 cw hu5);have fZ:=ZsM (m:=m) (n:=l.length) (x:=x) (xs:=xs) (cs:=cs) (by omega) eA.out (by have:=dz.out.2;omega) dz.out.1
     have me:(cs.take (m*2)++x.cells++cs.drop (m*2+x.cells.length)).length=c*2:=by
      have h4:x.cells.length=2:=rfl;have:=dz.out.2;rw[Gt,Gt,Hm,G5,h4];omega
     have hgo:ZaJ (l.take (j+1))=ZaJ (l.take j)++[x]:=Zrj hlt HX.out (by rw[nS.out];rfl);have jP:=Qh cw;have cF:=Qh (de.out.trans hu5);have oH:=Qh (And.intro fZ me);have iT:=Qh hgo;clear cw hu5 fZ me hgo;go_roundg (gk-1)
     case measure=>omega
     case rel=>
      refine⟨m+1,j+1,xs.set m x,_,by omega,by go_num,by go_num,by omega,Qh (by rw[List.length_set];exact eA.out),Qh ⟨?_,?_⟩,Qh ?_,jP,oH,cF.out⟩
      ·rw[iT.out,<-HM.out.1,List.set_eq_take_append_cons_drop,if_pos (by have:=eA.out;omega),List.take_append,List.take_of_length_le (by rw[Hm];omega),Hm,Nat.min_eq_left (by have:=eA.out;omega),Nat.add_sub_cancel_left];rfl
      ·rw[iT.out,Gt,HM.out.2];rfl
      ·rw[List.drop_set_of_lt (by omega)];exact l6.out
    ·rw[hbx]at HC;have hgo:ZaJ (l.take (j+1))=ZaJ (l.take j):=Ztj hlt HX.out (by rw[hbx];rfl);have iT:=Qh hgo;clear hbx hgo;go_wp2_with fail;refine Ck HC.out fun w2 hu2=>?_;have dR:=Qh ((fV.out.upd UX.out id).upd hu2 id);have de:=Qh (hu.trans ((UX.out.trans hu2).mono (fun _ _ e=>e.elim)));clear hu2 HC;go_wp2;go_roundg (gk-1);exact⟨m,j+1,xs,cs,by omega,rfl,by go_num,by omega,eA,Qh (by rw[iT.out];exact HM.out),l6,dR,dz,de.out⟩;omega
   ·obtain rfl:j=l.length:=by omega
    have hA:=ff.out;subst hA
    have d7:ZaJ l=xs.take m∧(ZaJ l).length=m:=by
     have:=HM.out;rw[G7]at this;exact⟨this.1.symm,this.2⟩
    have fO:=Qh d7;have i3:(m:Int)<=(l.length:Int):=by omega
    have j5:¬c=m:=by omega
    have k1:∀W,(Instr.slice 23 (.slice (some ⟨g,0,none⟩) l.length c) (some (Qi (m:Int))) none none).run Tryz.prog W= .ok (.slice (some ⟨g,m*2,none⟩) (l.length-m) (c-m)) W:=fun W=>by
     have:=Za5 (P:=Tryz.prog) (W:=W) ZhM (some ⟨g,0,none⟩) l.length c m (by omega)
     rwa [ZdQ j5]at this
    have k2:∀W,(Instr.slice 23 (.slice (some ⟨g,0,none⟩) l.length c) none (some (Qi (m:Int))) none).run Tryz.prog W= .ok (.slice (some ⟨g,0,none⟩) m c) W:=fun W=>by
     have:=ZbZ (P:=Tryz.prog) (W:=W) ZhM (some ⟨g,0,none⟩) l.length c m (by omega)
     rwa [Zgo]at this
    have HU:=Qh hu;clear d7 hu dq fF ij HT cS dX HM HD;go_wp2_with (refine Ze1 rfl rfl ZhM (z:= .agg #[Qi 0,.slice none 0 0]) (fun w=>by kernel_rfl) rfl (by intro v hv;simp[Value.cells]at hv;rcases hv with rfl|rfl<;>rfl) (g:=g) (off:=m*2) (n:=l.length-m) rfl (by omega) fV.out (by have:=dz.out.2;omega) ?_;intro zs w6 eM fx hu6)
    have cp:(cs.take (m*2)++zs++cs.drop (m*2+zs.length)).take (m*2)=Za9 (ZaJ l):=by
     rw[Gx,Gc (by rw[Hm];have:=dz.out.2;omega),List.take_take,Nat.min_self,fO.out.1,<-Zkt,<-dz.out.1,List.take_take,Nat.min_eq_left (by omega)]
    have HF:=Qh cp;have cP:=Qh fx;have bI:=Qh (HU.out.trans hu6);clear cp fx hu6;go_wp2;go_ret;exact⟨by rw[fO.out.2];rfl,⟨_,cP.out,by rw[fO.out.2];exact HF.out⟩,bI.out⟩
 ·have fU:Zeu l= -1:=by unfold Zeu;rw[if_neg aA]
  rw[fU]at HI
  have ah:ZaJ l=l:=by
   unfold ZaJ;rw[List.filter_eq_self];intro x hx
   have h0:ZcR l=l.length:=by
    have:=List.findIdx_le_length (xs:=l) (p:=ZaB);unfold ZcR at aA ⊢;omega
   have h1:=(List.findIdx_eq_length (p:=ZaB) (xs:=l)).1 h0 x hx;rw[h1];rfl
  have ez:=Qh ah;have HB:=Qh hb;have HT:=Qh ht;clear fU aA ah hW hb ht;go_enter Tryz.func202,Tryz.ntmps202;go_wp2_with fail;refine Ck HI.out fun w1 hu1=>?_;go_wp2;go_ret;exact⟨by rw[ez.out];rfl,⟨cur,HB.out.upd hu1 id,by rw[ez.out];exact HT.out⟩,hu1.mono (fun _ _ e=>e.elim)⟩
/- slices.Delete at transactions:one taken out. -/
theorem Zuy{l:List HTx}:∀v∈(l.map HTx.cells).flatten,v.oneCell'=true:=fun v hv=>by
 obtain⟨r,hr,h⟩:=List.mem_flatten.1 hv;obtain⟨e,_,rfl⟩:=Ih.1 hr;simp only[HTx.cells,Ie,G6,or_false]at h;rcases h with rfl|rfl|rfl<;>rfl
theorem ZcA(l:List HTx):(l.map HTx.cells).flatten.length=l.length*3:=by
 have:=Zdl (rows:=l.map HTx.cells) (size:=3) Ziz
 rwa [Hw]at this
theorem Zou(l:List HTx)(i:Nat)(hi:i<=l.length):(l.map HTx.cells).flatten.take (i*3)=((l.take i).map HTx.cells).flatten:=by
 conv=>lhs;rw[<-List.take_append_drop i l,Hu,List.flatten_append]
 rw[Gc (by rw[ZcA,Hm,Nat.min_eq_left hi];omega),List.take_of_length_le (by rw[ZcA,Hm,Nat.min_eq_left hi];omega)]
theorem Zov(l:List HTx)(i:Nat)(hi:i<=l.length):(l.map HTx.cells).flatten.drop (i*3)=((l.drop i).map HTx.cells).flatten:=by
 conv=>lhs;rw[<-List.take_append_drop i l,Hu,List.flatten_append]
 rw[List.drop_append,List.drop_of_length_le (by rw[ZcA,Hm,Nat.min_eq_left hi];omega),ZcA,Hm,Nat.min_eq_left hi,Nat.sub_self];rfl
def ZC(l:List HTx)(i:Nat):List HTx:=l.take i++l.drop (i+1)
theorem Zk7(l:List HTx)(i:Nat)(hi:i<l.length):(ZC l i).length=l.length-1:=by
 unfold ZC;simp;omega
def ZxR(w:I0)(base:Nat)(v:Iz)(l:List HTx)(e:Ending)(w':I0):Prop:=
 ∃A' c',e= .returned (.slice A' l.length c')∧w'.ownsRow base 39 3 (.slice A' l.length c') l.length (l.map HTx.cells).flatten∧Upd (Own v) w w'∧Grew w v (.slice A' l.length c')
theorem ZxZ(w:I0)(base:Nat)(A:OA)(c:Nat)(l:List HTx)(i:Nat)(ae:w.ownsRow base 39 3 (.slice A l.length c) l.length (l.map HTx.cells).flatten)(hi:i<l.length)(hl:l.length<=100000):
  Calls Tryz.prog 144 #[.slice A l.length c,Qi (i:Int),Qi ((i:Int)+1)] w (ZxR w base (.slice A l.length c) (ZC l i)):=by
 have cR:=Zk7 l i hi;have aA:0<l.length:=by omega
 obtain⟨g,cur,rfl,iL,hB,bG,aT,gL,eK⟩:=Zbz ae aA;have cf:((l.drop (i+1)).map HTx.cells).flatten=(cur.take (l.length*3)).drop ((i+1)*3):=by rw[gL,Zov l (i+1) (by omega)]
 have gq:((l.drop (i+1)).map HTx.cells).flatten.length=(l.length-(i+1))*3:=by rw[ZcA,G5]
 have bi:cur.take (i*3)=((l.take i).map HTx.cells).flatten:=by rw[<-Zou l i (by omega),<-gL,List.take_take,Nat.min_eq_left (by omega)]
 have b0:(0:Int)<=(i:Int):=Qn _;have b1:(i:Int)<(l.length:Int):=by omega
 have b2:(l.length:Int)<=100000:=by omega
 have b3:(l.length:Int)<=(c:Int):=by omega
 have aV:((i:Int)==(i:Int)+1)=false:=by rw[beq_eq_false_iff_ne];omega
 have bu:∃ad,(∀W,(Instr.slice 22 (.slice (some ⟨g,0,none⟩) l.length c) (some (Qi ((i:Int)+1))) none none).run Tryz.prog W= .ok (.slice (some ad) (l.length-(i+1)) (c-(i+1))) W)∧
   ∀(j:Nat) v,((l.drop (i+1)).map HTx.cells).flatten[j]? =some v->w.cell? (ad.add j)=some v:=by
  have hr:=fun W=>Za5 W Zb1 (some ⟨g,0,none⟩) l.length c (i+1) (by omega)
  by_cases j5:c=i+1
  ·refine⟨⟨g,0,none⟩,fun W=>?_,fun j v hj=>?_⟩
   ·have:=hr W;unfold Zd1 at this;rw[if_pos j5]at this;exact this
   ·have h0:((l.drop (i+1)).map HTx.cells).flatten=[]:=Gd (by rw[gq];omega);rw[h0]at hj;simp at hj
  ·refine⟨⟨g,(i+1)*3,none⟩,fun W=>?_,fun j v hj=>?_⟩
   ·have:=hr W
    rwa [ZdQ j5]at this
   ·rw[Zcl,hB.cell];rw[cf,List.getElem?_drop,List.getElem?_take]at hj
    split at hj
    ·exact hj
    ·cases hj
 obtain⟨ad,k1,mv⟩:=bu
 have k2:∀W,(Instr.slice 22 (.slice (some ⟨g,0,none⟩) l.length c) none (some (Qi (i:Int))) none).run Tryz.prog W= .ok (.slice (some ⟨g,0,none⟩) i c) W:=fun W=>by
  have:=ZbZ W Zb1 (some ⟨g,0,none⟩) l.length c i (by omega)
  rwa [Zgo]at this
 obtain⟨p,hp⟩:∃p,l.length=p+1:=⟨l.length-1,by omega⟩;have Dr:i+(l.length-(i+1))=p:=by omega
 have k3:∀W,(Instr.slice 22 (.slice (some ⟨g,0,none⟩) p c) (some (Qi (p:Int))) (some (Qi (l.length:Int))) none).run Tryz.prog W= .ok (.slice (some ⟨g,p*3,none⟩) 1 (c-p)) W:=fun W=>by
  have:=ZoD W Zb1 (some ⟨g,0,none⟩) p c p l.length (by omega) (by omega)
  rwa [ZdQ (by omega),show l.length-p=1 by omega]at this
 have HP:=Qh hp;have HB:=Qh hB;have HS:=Qh mv;have cS:=Qh gq;have ij:=Qh bi;have lK:=Qh aT;have HI:=Qh cR;have b5:IntKind.i64.wrap ((i:Int)+1)=(i:Int)+1:=IntWalk.i64_in _ (by omega);have b4:(0:Int)<=(p:Int):=Qn _;clear hB mv cf gq bi aT gL cR ae hp;go_enter Tryz.func144,Tryz.ntmps144;go_wp2;refine wpS (fun w'=>Upd (One g) w w') ?_ fun jH=>?_
 ·(first|exact(Il _ _).drew|exact cC)
 (iterate 6 refine wpF ?_);refine wpZ 6 rfl fun K hK=>?_
 (first
  |(refine Zli rfl rfl Zb1 (g:=g) (n:=i) (m:=l.length-(i+1)) (news:=((l.drop (i+1)).map HTx.cells).flatten) rfl rfl (show Blk _ g 39 cur from HB.out) cS.out HS.out (by omega) (by rw[cS.out,lK.out];omega) Zuy ?_;intro w5 jY hu5;have cC:Upd (One g) w w5:=hu5.of_drew))
 refine hK.out _ _ ?_ fun jH=>?_
 ·(first|exact(Il _ _).drew|exact cC)
 try simp only[Qa]
 refine wpK 7 rfl ?_;refine wpD (Ii ?_);have cF:=Qh cC;have jP:=Qh jY
 have nc:(cur.take (i*3)++((l.drop (i+1)).map HTx.cells).flatten++cur.drop (i*3+((l.drop (i+1)).map HTx.cells).flatten.length)).length=c*3:=by
  have h1:=HP.out;simp only[Gt,Hm,G5,cS.out,lK.out];omega
 have mO:=Qh nc;clear jH cC hu5 jY b5 nc;go_wp2_with (refine Ze1 rfl rfl Zb1 (z:= .agg #[Qi 0,.bool false,.slice none 0 0]) (fun w=>by kernel_rfl) rfl (by intro v hv;simp[Value.cells]at hv;rcases hv with rfl|rfl|rfl<;>rfl) (g:=g) (off:=p*3) (n:=1) rfl (by omega) jP.out (by rw[mO.out];have:=HP.out;omega) ?_;intro zs w6 eM fx hu6);have hp:=HP.out
 have cp:(((cur.take (i*3)++((l.drop (i+1)).map HTx.cells).flatten++cur.drop (i*3+((l.drop (i+1)).map HTx.cells).flatten.length)).take (p*3)++zs++(cur.take (i*3)++((l.drop (i+1)).map HTx.cells).flatten++cur.drop (i*3+((l.drop (i+1)).map HTx.cells).flatten.length)).drop (p*3+zs.length))).take (p*3)=((ZC l i).map HTx.cells).flatten:=by
  have e:((ZC l i).map HTx.cells).flatten=cur.take (i*3)++((l.drop (i+1)).map HTx.cells).flatten:=by rw[ij.out];unfold ZC;simp
  have bC:(cur.take (i*3)++((l.drop (i+1)).map HTx.cells).flatten).length=p*3:=by rw[<-e,ZcA,HI.out];omega
  rw[e,Gx (List.take (p*3) _),Gc (by simp only[Hm,mO.out];omega),List.take_take,Nat.min_self,Gc (by omega),List.take_of_length_le (by omega)]
 have dM:((cur.take (i*3)++((l.drop (i+1)).map HTx.cells).flatten++cur.drop (i*3+((l.drop (i+1)).map HTx.cells).flatten.length)).take (p*3)++zs++(cur.take (i*3)++((l.drop (i+1)).map HTx.cells).flatten++cur.drop (i*3+((l.drop (i+1)).map HTx.cells).flatten.length)).drop (p*3+zs.length)).length=c*3:=by
  rw[Gt,Gt,Hm,G5,mO.out,eM];omega
 have ar:=Zbh (size:=3) (n:=p) (xs:=((ZC l i).map HTx.cells).flatten) fx iL (by omega) dM cp eK (by rw[ZcA,HI.out];omega);have H6:=Qh (And.intro ar (cF.out.trans hu6));clear cp dM ar fx hu6 hp;go_wp2;go_ret;have pC:(ZC l i).length=p:=by rw[HI.out,HP.out];rfl
 refine⟨some ⟨g,0,none⟩,c,by rw[pC];rfl,?_,H6.out.2.mono (fun j _ e=>by cases e;rfl),.inl rfl⟩;rw[pC];exact H6.out.1
/- Digraphs:an end taken out from among others. -/
/- Digraphs:ends put in and taken out. -/
theorem Zef{w:I0}{base:Nat}{A:OA}{c:Nat}{l:Iq}(h:w.ownsRow base 160 3 (.slice A l.length c) l.length (l.map DEnd.cells).flatten):DEnds (Own (.slice A l.length c)) w A l:=
 Recs.of_own (n:=l.length) (c:=c) Zk3 (by omega) h
theorem Grew.older{w W:I0}{v v':Iz}(h:Grew W v v')(k:w.heap.size<=W.heap.size):Grew w v v':=by
 rcases h with h|⟨j,h1,h2⟩
 ·exact .inl h
 ·exact .inr ⟨j,h1,Nat.le_trans k h2⟩
theorem Zwm(w:I0)(base:Nat)(A:OA)(c:Nat)(l:Iq)(e:DEnd)(p:Nat)(ae:w.ownsRow base 160 3 (.slice A l.length c) l.length (l.map DEnd.cells).flatten)(hp:Zlp l e p)(hl:l.length<=100000)(a7:base<=w.heap.size):
  Calls Tryz.prog 128 #[.slice A l.length c,.agg e.cells.toArray] w (ZwL w base (.slice A l.length c) (Zcv l p e)):=by
 have u0:=(Il No w).alloc (.cells e.cells.toArray 160);have bE:=Qh (Im w 160 e.cells);have hf:=Qh (Zue _ (w.alloc (.cells e.cells.toArray 160)) A c l e p ((Zef ae).upd u0 Qo) (by omega) hp);have dh:=hp.1;have HO:=Qh ae;have U0:=Qh u0;obtain⟨ek,el,en⟩:=e;unfold DEnd.cells at*;clear ae hp u0;go_enter Tryz.func128,Tryz.ntmps128;go_wp2_with fail;refine Ck hf.out fun w1 hu1=>?_;have b1:=bE.out.upd hu1 id;obtain⟨c0,c1,c2⟩:=b1.c3;have hU:=U0.out.trans hu1;have uV:=hU.alloc (.cells #[Qi ek,Qi el,Qi en] 160);have aD:=Za HO.out uV Qo
 have kZ:¬Own (.slice A l.length c) w1.heap.size:=fun e=>by
  have h1:=(HO.out.lt _ e).2;have h2:=hU.size;omega
 have hd:=Qh (Zyi (w1.alloc (.cells #[Qi ek,Qi el,Qi en] 160)) base A c l p ⟨ek,el,en⟩ w1.heap.size aD (Im w1 160 [Qi ek,Qi el,Qi en]) kZ dh hl (Nat.le_trans a7 uV.size));have UV:=Qh uV;clear b1 hu1 hU uV aD kZ;go_wp2_with fail;refine(hd.out).mono ?_;rintro e w2 ⟨A4,c4,rfl,aW,hu4,dd⟩;have H4:=Qh (And.intro aW (And.intro hu4 dd));clear aW hu4 dd;go_wp2;go_ret;exact⟨A4,c4,rfl,H4.out.1,(UV.out.mono (fun _ _ e=>e.elim)).trans H4.out.2.1,H4.out.2.2.older UV.out.size⟩
/-! rising ends -/
def ZdE(l:Iq):Prop:=l.Pairwise fun a b=>Zbb a b<0
theorem Zj4{a b:Int}:Zw a b<0↔a<b:=by unfold Zw;split<;>(try split)<;>omega
theorem cmpI_eq{a b:Int}:Zw a b=0↔a=b:=by unfold Zw;split<;>(try split)<;>omega
theorem Zj5(a b:DEnd):Zbb a b<0↔a.kind<b.kind∨(a.kind=b.kind∧(a.label<b.label∨(a.label=b.label∧a.node<b.node))):=by
 unfold Zbb;simp only[ZhX]
 by_cases h1:a.kind=b.kind
 ·rw[if_pos (cmpI_eq.2 h1)]
  by_cases h2:a.label=b.label
  ·rw[if_pos (cmpI_eq.2 h2)]
   by_cases h3:a.node=b.node
   ·rw[if_pos (cmpI_eq.2 h3)];simp[orI,h1,h2,h3]
   ·rw[if_neg (fun e=>h3 (cmpI_eq.1 e)),Zj4];simp[h1,h2]
  ·rw[if_neg (fun e=>h2 (cmpI_eq.1 e)),Zj4];simp[h1,h2]
 ·rw[if_neg (fun e=>h1 (cmpI_eq.1 e)),Zj4];simp[h1]
theorem Zj6(a b:DEnd):Zbb a b=0↔a=b:=by
 obtain⟨ak,al,an⟩:=a;obtain⟨bk,bl,bn⟩:=b;unfold Zbb;simp only[ZhX,DEnd.mk.injEq]
 by_cases h1:ak=bk
 ·rw[if_pos (cmpI_eq.2 h1)]
  by_cases h2:al=bl
  ·rw[if_pos (cmpI_eq.2 h2)]
   by_cases h3:an=bn
   ·rw[if_pos (cmpI_eq.2 h3)];simp[orI,h1,h2,h3]
   ·rw[if_neg (fun e=>h3 (cmpI_eq.1 e)),cmpI_eq];simp[h1,h2]
  ·rw[if_neg (fun e=>h2 (cmpI_eq.1 e)),cmpI_eq];simp[h2]
 ·rw[if_neg (fun e=>h1 (cmpI_eq.1 e)),cmpI_eq];simp[h1]
theorem Zjs{a b c:DEnd}(h:Zbb a b<0)(k:Zbb b c<0):Zbb a c<0:=by
 rw[Zj5]at*;omega
def Zbs(l:Iq)(e:DEnd):Nat:=l.countP fun x=>decide (Zbb x e<0)
theorem ZcS{l:Iq}(h:ZdE l)(e:DEnd):Zlp l e (Zbs l e):=by
 refine⟨List.countP_le_length,?_⟩
 induction l with
 |nil=>intro k hk;simp at hk
 |cons a l ih=>
  have h':=Gr.1 h;intro k hk;unfold Zbs;rw[Hl]
  by_cases ha:Zbb a e<0
  ·rw[if_pos (by simpa using ha)]
   cases k with
   |zero=>simp only[List.getElem_cons_zero,ha,true_iff];omega
   |succ k=>
    rw[Gf,ih h'.2 k (by simpa using hk)];unfold Zbs;omega
  ·rw[if_neg (by simpa using ha)]
   have h0:l.countP (fun x=>decide (Zbb x e<0))=0:=by
    rw[List.countP_eq_zero];intro x hx;simp only[Gw];exact fun hxe=>ha (Zjs (h'.1 x hx) hxe)
   rw[h0]
   cases k with
   |zero=>simp only[List.getElem_cons_zero,ha,false_iff];omega
   |succ k=>
    rw[Gf]
    constructor
    ·intro hx;exact absurd (Zjs (h'.1 _ (Hg _)) hx) ha
    ·intro hx;omega
theorem Zs0{l:Iq}(h:ZdE l)(e:DEnd):Zh7 l e (Zbs l e)=decide (e∈l):=by
 have hp:=ZcS h e;rw[Bool.eq_iff_iff,Gw];unfold Zh7
 constructor
 ·intro hi
  split at hi
  ·rename_i x hx
   have:=(Zj6 x e).1 (by simpa using hi);subst this;exact Gn hx
  ·cases hi
 ·intro hm;obtain⟨k,hk,rfl⟩:=Gl.1 hm
  have h1:¬k<Zbs l l[k]:=fun hlt=>by
   have:=(hp.2 k hk).2 hlt;rw[(Zj6 _ _).2 rfl]at this;omega
  have h2:¬Zbs l l[k]<k:=fun hlt=>by
   have h3:=List.pairwise_iff_getElem.1 h (Zbs l l[k]) k (by omega) hk hlt;have:=(hp.2 _ (by omega)).1 h3;omega
  have h3:Zbs l l[k]=k:=by omega
  rw[h3,Qg hk];simp[(Zj6 _ _).2 rfl]
/- Digraphs:how one lies in memory;what reads it. -/
structure HArc where
 f:Int
 t:Int
 kind:Int
 label:Int
deriving DecidableEq
def HArc.cells(a:HArc):Ip:=[Qi a.f,Qi a.t,Qi a.kind,Qi a.label]
def RowsD(w:I0)(base:Nat)(hs:Ip)(ls:List (Iq)):Prop:=
 hs.length=ls.length∧∀i (hi:i<ls.length),∃A c,hs[i]? =some (.slice A ls[i].length c)∧w.ownsRow base 160 3 (.slice A ls[i].length c) ls[i].length (ls[i].map DEnd.cells).flatten
def ApartD(hs:Ip):Prop:=∀(i j:Nat) (v u:Iz) (k:Nat),hs[i]? =some v->hs[j]? =some u->i≠j->Own v k->¬Own u k
structure GIs (w:World) (G:Nat->Prop) (g:Nat) (out inn:List (List DEnd)) (n:Int) (ob ib:Nat) (oh ih:List Value) (base:Nat):Prop where
 blk:Blk w g 158 [.slice (some ⟨ob,0,none⟩) out.length out.length,.slice (some ⟨ib,0,none⟩) out.length out.length,Qi n]
 ob_:Blk w ob 163 oh
 ib_:Blk w ib 163 ih
 len:inn.length=out.length
 ro:RowsD w base oh out
 ri:RowsD w base ih inn
 dis:ApartD (oh++ih)
 low:g<base∧ob<base∧ib<base
 ne:g≠ob∧g≠ib∧ob≠ib
 inG:G g∧G ob∧G ib∧∀v∈oh++ih,∀k,Own v k->G k
 old:∀k,G k->k<w.heap.size
 few:out.length<=4096∧(∀l∈out,l.length<=100000)∧(∀l∈inn,l.length<=100000)
theorem RowsD.upd{S:Iw}{w w':I0}{base:Nat}{hs:Ip}{ls:List (Iq)}(h:RowsD w base hs ls)(k:Upd S w w')(hn:∀v∈hs,∀i,Own v i->¬S i):RowsD w' base hs ls:=
 ⟨h.1,fun i hi=>by
  obtain⟨A,c,h1,h2⟩:=h.2 i hi;exact⟨A,c,h1,Za h2 k (fun j e=>hn _ (Gn h1) j e)⟩⟩
theorem GIs.upd{S:Iw}{w w':I0}{G:Iw}{g:Nat}{out inn:List (Iq)}{n:Int}{ob ib:Nat}{oh ih:Ip}{base:Nat}(h:GIs w G g out inn n ob ib oh ih base)(k:Upd S w w')(hn:∀i,G i->¬S i):GIs w' G g out inn n ob ib oh ih base:=
 {h with
  blk:=h.blk.upd k (hn _ h.inG.1)
  ob_:=h.ob_.upd k (hn _ h.inG.2.1)
  ib_:=h.ib_.upd k (hn _ h.inG.2.2.1)
  ro:=h.ro.upd k fun v hv i e=>hn _ (h.inG.2.2.2 v (Gp _ hv) i e)
  old:=fun i hi=>Gu (h.old i hi) k.size
  ri:=h.ri.upd k fun v hv i e=>hn _ (h.inG.2.2.2 v (Gh _ hv) i e)}
section
variable {w:I0} {G:Iw} {g:Nat} {out inn:List (Iq)} {n:Int} {ob ib:Nat} {oh ih:Ip} {base:Nat}
theorem Zrr(h:GIs w G g out inn n ob ib oh ih base):CE 129 #[.pointer (some ⟨g,0,none⟩)] w (Qi (out.length:Int)):=by
 have c0:=h.blk.cell 0;simp only[Qz]at c0;go_enter Tryz.func129,Tryz.ntmps129;go_wp2;go_ret;exact⟨rfl,rfl⟩
def ZY(N:Nat)(i:Int):Bool:=decide (0<=i)&&decide (i<(N:Int))
theorem Zln(h:GIs w G g out inn n ob ib oh ih base)(i:Int):CE 180 #[.pointer (some ⟨g,0,none⟩),Qi i] w (.bool (ZY out.length i)):=by
 have HN:=Qh (Zrr h)
 by_cases h0:0<=i
 ·have HV:=Qh (show ZY out.length i=decide (i<(out.length:Int)) by unfold ZY;rw[Qt h0];rfl);go_enter Tryz.func180,Tryz.ntmps180;go_wp2_with fail;refine(HN.out).mono ?_;rintro e w1 ⟨rfl,rfl⟩;go_wp2;go_ret;exact⟨by rw[HV.out];rfl,rfl⟩
 ·have HV:=Qh (show ZY out.length i=false by unfold ZY;rw[Qf h0];rfl);have hb:decide (0<=i)=false:=Qf h0;clear h0;go_enter Tryz.func180,Tryz.ntmps180;go_wp2;go_ret;exact⟨by rw[HV.out];rfl,rfl⟩
def Zo(N:Nat)(a:HArc):Bool:=ZY N a.f&&(ZY N a.t&&(decide (1<=a.kind)&&(decide (a.kind<=3)&&(decide (0<=a.label)&&decide (a.label<=1048575)))))
theorem Zrn(h:GIs w G g out inn n ob ib oh ih base)(a:HArc):CN 125 #[.pointer (some ⟨g,0,none⟩),.agg a.cells.toArray] w (.bool (Zo out.length a)):=by
 obtain⟨af,at',ak,al⟩:=a;unfold HArc.cells;have u0:=(Il No w).alloc (.cells #[Qi af,Qi at',Qi ak,Qi al] 119);have hn:=fun i=>Zln (h.upd u0 Qo) i
 obtain⟨b1,aX⟩:∃b,ZY out.length af=b:=⟨_,rfl⟩;obtain⟨b2,aS⟩:∃b,ZY out.length at'=b:=⟨_,rfl⟩;have hn1:=hn af;have dY:=hn at';rw[aX]at hn1;rw[aS]at dY;have oZ:=Qh hn1;have oL:=Qh dY;have hv:Zo out.length ⟨af,at',ak,al⟩=(b1&&(b2&&(decide (1<=ak)&&(decide (ak<=3)&&(decide (0<=al)&&decide (al<=1048575)))))):=by unfold Zo;rw[aX,aS]
 have HV:=Qh hv;clear hn hn1 dY aX aS hv
 cases b1
 ·go_enter Tryz.func125,Tryz.ntmps125;go_wp2_with fail;refine(oZ.out).mono ?_;rintro e w1 ⟨rfl,rfl⟩;go_wp2;go_ret;exact⟨by rw[HV.out];rfl,u0⟩
 ·cases b2
  ·go_enter Tryz.func125,Tryz.ntmps125;go_wp2_with fail;refine(oZ.out).mono ?_;rintro e w1 ⟨rfl,rfl⟩;go_wp2_with fail;refine(oL.out).mono ?_;rintro e w1 ⟨rfl,rfl⟩;go_wp2;go_ret;exact⟨by rw[HV.out];rfl,u0⟩
  ·by_cases k1:1<=ak
   ·by_cases k2:ak<=3
    ·by_cases k3:0<=al
     ·have HW:=Qh (show Zo out.length ⟨af,at',ak,al⟩=decide (al<=1048575) by rw[HV.out,Qt k1,Qt k2,Qt k3];rfl);go_enter Tryz.func125,Tryz.ntmps125;go_wp2_with fail;refine(oZ.out).mono ?_;rintro e w1 ⟨rfl,rfl⟩;go_wp2_with fail;refine(oL.out).mono ?_;rintro e w1 ⟨rfl,rfl⟩;go_wp2;go_ret;exact⟨by rw[HW.out];rfl,u0⟩
     ·have HW:=Qh (show Zo out.length ⟨af,at',ak,al⟩=false by rw[HV.out,Qf k3];simp);have kb:decide (0<=al)=false:=Qf k3;clear k3;go_enter Tryz.func125,Tryz.ntmps125;go_wp2_with fail;refine(oZ.out).mono ?_;rintro e w1 ⟨rfl,rfl⟩;go_wp2_with fail;refine(oL.out).mono ?_;rintro e w1 ⟨rfl,rfl⟩;go_wp2;go_ret;exact⟨by rw[HW.out];rfl,u0⟩
    ·have HW:=Qh (show Zo out.length ⟨af,at',ak,al⟩=false by rw[HV.out,Qf k2];simp);have kb:decide (ak<=3)=false:=Qf k2;clear k2;go_enter Tryz.func125,Tryz.ntmps125;go_wp2_with fail;refine(oZ.out).mono ?_;rintro e w1 ⟨rfl,rfl⟩;go_wp2_with fail;refine(oL.out).mono ?_;rintro e w1 ⟨rfl,rfl⟩;go_wp2;go_ret;exact⟨by rw[HW.out];rfl,u0⟩
   ·have HW:=Qh (show Zo out.length ⟨af,at',ak,al⟩=false by rw[HV.out,Qf k1];simp);have kb:decide (1<=ak)=false:=Qf k1;clear k1;go_enter Tryz.func125,Tryz.ntmps125;go_wp2_with fail;refine(oZ.out).mono ?_;rintro e w1 ⟨rfl,rfl⟩;go_wp2_with fail;refine(oL.out).mono ?_;rintro e w1 ⟨rfl,rfl⟩;go_wp2;go_ret;exact⟨by rw[HW.out];rfl,u0⟩
end
def ZcF(a:HArc):DEnd:=⟨a.kind,a.label,a.t⟩
def inE(a:HArc):DEnd:=⟨a.kind,a.label,a.f⟩
theorem Upd.blk{S:Iw}{w w':I0}{g:Nat}{t:Iy}{cs:Ip}(k:Upd S w w')(h:Blk w g t cs)(hn:¬S g):Blk w' g t cs:=h.upd k hn
def Zek(a b:Nat):Nat->Prop:=fun i=>i=a∨i=b
theorem Zuf(w:I0)(a:HArc):CN 127 #[.agg a.cells.toArray] w (.tuple #[.agg (ZcF a).cells.toArray,.agg (inE a).cells.toArray]):=by
 obtain⟨af,at',ak,al⟩:=a;unfold HArc.cells;obtain⟨wb,ag⟩:=Qe (((w.alloc (.cells #[Qi af,Qi at',Qi ak,Qi al] 119)).alloc (.cells #[Qi 0,Qi 0,Qi 0] 160)).alloc (.cells #[Qi 0,Qi 0,Qi 0] 160));have u0:Upd No w wb:=by rw[<-ag];exact(((Il No w).alloc _).alloc _).alloc _
 have bA:Blk wb w.heap.size 119 [Qi af,Qi at',Qi ak,Qi al]:=by rw[<-ag];exact((Im w 119 [Qi af,Qi at',Qi ak,Qi al]).alloc _).alloc _
 have h1:Blk wb (w.heap.size+1) 160 [Qi 0,Qi 0,Qi 0]:=by
  rw[<-ag];have:=(Im (w.alloc (.cells #[Qi af,Qi at',Qi ak,Qi al] 119)) 160 [Qi 0,Qi 0,Qi 0]).alloc (.cells #[Qi 0,Qi 0,Qi 0] 160)
  simpa using this
 have h2:Blk wb (w.heap.size+1+1) 160 [Qi 0,Qi 0,Qi 0]:=by
  rw[<-ag];have:=Im ((w.alloc (.cells #[Qi af,Qi at',Qi ak,Qi al] 119)).alloc (.cells #[Qi 0,Qi 0,Qi 0] 160)) 160 [Qi 0,Qi 0,Qi 0]
  simpa using this
 have hn:¬Zek (w.heap.size+1) (w.heap.size+1+1) w.heap.size:=by unfold Zek;omega
 have a0:∀W,Upd (Zek (w.heap.size+1) (w.heap.size+1+1)) wb W->W.cell? ⟨w.heap.size,0,none⟩=some (Qi af):=fun W hW=>(bA.upd hW hn).cell 0
 have a1:∀W,Upd (Zek (w.heap.size+1) (w.heap.size+1+1)) wb W->W.cell? ⟨w.heap.size,1,none⟩=some (Qi at'):=fun W hW=>(bA.upd hW hn).cell 1
 have a2:∀W,Upd (Zek (w.heap.size+1) (w.heap.size+1+1)) wb W->W.cell? ⟨w.heap.size,2,none⟩=some (Qi ak):=fun W hW=>(bA.upd hW hn).cell 2
 have a3:∀W,Upd (Zek (w.heap.size+1) (w.heap.size+1+1)) wb W->W.cell? ⟨w.heap.size,3,none⟩=some (Qi al):=fun W hW=>(bA.upd hW hn).cell 3
 have vv:=Qh ag;have U0:=Qh u0;clear ag u0 bA hn;have H1:=Qh h1;have H2:=Qh h2;clear h1 h2;go_enter Tryz.func127,Tryz.ntmps127;go_wp2;rw[vv.out];refine wpS (fun w'=>Upd (Zek (w.heap.size+1) (w.heap.size+1+1)) wb w') ?_ fun jH=>?_
 ·(first|exact(Il _ _).drew|exact jH.trans hq)
 (iterate 14 refine wpF ?_);refine wpZ 14 rfl fun K hK=>?_
 (first
  |(refine Zc3 rfl rfl (g:=w.heap.size+1) (cells:=[Qi ak,Qi al,Qi at']) rfl rfl (show Blk _ _ 160 [Qi 0,Qi 0,Qi 0] from H1.out) (by kernel_rfl) rfl rfl ?_;intro w5 cw hu5;have H1:=Qh cw;have H2:=Qh (hu5.blk (g:=w.heap.size+1+1) (t:=160) (cs:=[Qi 0,Qi 0,Qi 0]) (by exact H2.out) (by unfold One;omega));have hq:=hu5.mono (T:=Zek (w.heap.size+1) (w.heap.size+1+1)) (fun _ _ e=>Or.inl e);clear cw hu5)
  |(refine Zc3 rfl rfl (g:=w.heap.size+1+1) (cells:=[Qi ak,Qi al,Qi af]) rfl rfl (show Blk _ _ 160 [Qi 0,Qi 0,Qi 0] from H2.out) (by kernel_rfl) rfl rfl ?_;intro w5 cw hu5;have H2:=Qh cw;have H1:=Qh (hu5.blk (g:=w.heap.size+1) (t:=160) (cs:=[Qi ak,Qi al,Qi at']) (by exact H1.out) (by unfold One;omega));have hq:=hu5.mono (T:=Zek (w.heap.size+1) (w.heap.size+1+1)) (fun _ _ e=>Or.inr e);clear cw hu5))
 refine hK.out _ _ ?_ fun jH=>?_
 ·(first|exact(Il _ _).drew|exact jH.trans hq)
 try simp only[Qa]
 refine wpZ 15 rfl fun K hK=>?_
 (first
  |(refine Zc3 rfl rfl (g:=w.heap.size+1) (cells:=[Qi ak,Qi al,Qi at']) rfl rfl (show Blk _ _ 160 [Qi 0,Qi 0,Qi 0] from H1.out) (by kernel_rfl) rfl rfl ?_;intro w5 cw hu5;have H1:=Qh cw;have H2:=Qh (hu5.blk (g:=w.heap.size+1+1) (t:=160) (cs:=[Qi 0,Qi 0,Qi 0]) (by exact H2.out) (by unfold One;omega));have hq:=hu5.mono (T:=Zek (w.heap.size+1) (w.heap.size+1+1)) (fun _ _ e=>Or.inl e);clear cw hu5)
  |(refine Zc3 rfl rfl (g:=w.heap.size+1+1) (cells:=[Qi ak,Qi al,Qi af]) rfl rfl (show Blk _ _ 160 [Qi 0,Qi 0,Qi 0] from H2.out) (by kernel_rfl) rfl rfl ?_;intro w5 cw hu5;have H2:=Qh cw;have H1:=Qh (hu5.blk (g:=w.heap.size+1) (t:=160) (cs:=[Qi ak,Qi al,Qi at']) (by exact H1.out) (by unfold One;omega));have hq:=hu5.mono (T:=Zek (w.heap.size+1) (w.heap.size+1+1)) (fun _ _ e=>Or.inr e);clear cw hu5))
 refine hK.out _ _ ?_ fun jH=>?_
 ·(first|exact(Il _ _).drew|exact jH.trans hq)
 try simp only[Qa]
 refine wpD (Ii ?_)
 all_goals
  obtain⟨r0,r1,r2⟩:=H1.out.c3;obtain⟨s0,s1,s2⟩:=H2.out.c3;have HU:=Qh (U0.out.then_ jH (fun i e=>by unfold Zek at e;exact .inr (by omega)));clear jH a0 a1 a2 a3;go_wp2;refine bodyPost_ret (v:= .tuple #[.agg #[Qi ak,Qi al,Qi at'],.agg #[Qi ak,Qi al,Qi af]]) (by simp[results,Tryz.results127,go_sem,r0,r1,r2,s0,s1,s2]) rfl ?_;exact⟨rfl,HU.out⟩
/- Digraphs:whether an arc is there. -/
theorem Zd5{N:Nat}{a:HArc}(h:Zo N a=true):∃i j:Nat,a.f=(i:Int)∧a.t=(j:Int)∧i<N∧j<N:=by
 simp only[Zo,ZY,Hj,Gw]at h;exact⟨a.f.toNat,a.t.toNat,by omega,by omega,by omega,by omega⟩
theorem ZnC(w0 w2:I0)(h:Upd No w0 w2)(t:Iy)(c1 c2:Ip)(wb:I0)(e:(w2.alloc (.cells c1.toArray t)).alloc (.cells c2.toArray t)=wb):Blk wb w2.heap.size t c1∧Blk wb (w2.heap.size+1) t c2∧Upd No w0 wb∧Upd No w2 wb:=by
 subst e;refine⟨(Im w2 t c1).alloc _,?_,(h.alloc _).alloc _,((Il No w2).alloc _).alloc _⟩;have:=Im (w2.alloc (.cells c1.toArray t)) t c2
 simpa using this
def ZeR(out:List (Iq))(a:HArc):Bool:=Zo out.length a&&(match out[a.f.toNat]? with|some l=>decide (ZcF a∈l)|none=>false)
section
variable {w:I0} {G:Iw} {g:Nat} {out inn:List (Iq)} {n:Int} {ob ib:Nat} {oh ih:Ip} {base:Nat}
theorem Zyj(h:GIs w G g out inn n ob ib oh ih base)(hr:∀l∈out,ZdE l)(a:HArc):CN 126 #[.pointer (some ⟨g,0,none⟩),.agg a.cells.toArray] w (.bool (ZeR out a)):=by
 have u0:=(Il No w).alloc (.cells a.cells.toArray 119);have hn:=Qh (Zrn (h.upd u0 Qo) a);have bA:=Qh (Im w 119 a.cells);have HH:=Qh h;have U0:=Qh u0
 by_cases hR:Zo out.length a=true
 ·obtain⟨i,j,e1,e2,hi,hj⟩:=Zd5 hR
  have hv:ZeR out a=decide (ZcF a∈out[i]):=by
   unfold ZeR;rw[hR,e1];simp[Qg hi]
  have HV:=Qh hv;have HE:=Qh (fun(W:I0)=>Zuf W a);rw[hR]at hn;obtain⟨A,c,dL,ae⟩:=h.ro.2 i hi;have HO:=Qh ae;have vm:=Qh (hr _ (Hg hi));have bD:=h.few.2.1 _ (Hg hi);obtain⟨af,at',ak,al⟩:=a;subst e1 e2;unfold HArc.cells at*;simp only[ZcF,inE,DEnd.cells]at HE;clear hR hv h u0 hr ae;go_enter Tryz.func126,Tryz.ntmps126;go_wp2_with fail;refine Ck hn.out fun w1 hu1=>?_;have b1:=bA.out.upd hu1 id;obtain⟨c0,c1,c2,c3⟩:=b1.c4;have U1:=Qh (U0.out.trans hu1);have B1:=Qh b1;clear b1 hu1 hn bA U0;go_wp2_with fail;refine Ck ((HE.out _)) fun w2 hu2=>?_;have U2:=Qh (U1.out.trans hu2);have B2:=Qh (B1.out.upd hu2 id);clear B1 U1 hu2 c0 c1 c2 c3 HE;go_wp2;obtain⟨wb,ag⟩:=Qe ((w2.alloc (.cells #[Qi ak,Qi al,Qi (j:Int)] 160)).alloc (.cells #[Qi ak,Qi al,Qi (i:Int)] 160));obtain⟨n1,n2,n3,n4⟩:=ZnC w w2 U2.out 160 [Qi ak,Qi al,Qi (j:Int)] [Qi ak,Qi al,Qi (i:Int)] wb ag;have b4:=B2.out.upd n4 id;have hg:=HH.out.upd n3 Qo;have wA:=List.getElem?_eq_some_iff.1 dL;have g0:∀W,Upd No wb W->W.cell? ⟨g,0,none⟩=some (.slice (some ⟨ob,0,none⟩) out.length out.length):=fun W hW=>(hg.blk.upd hW id).cell 0
  have a0:∀W,Upd No wb W->W.cell? ⟨w.heap.size,0,none⟩=some (Qi (i:Int)):=fun W hW=>(b4.upd hW id).cell 0
  have oi:∀W,Upd No wb W->W.cell? ⟨ob,i,none⟩=some (.slice A out[i].length c):=fun W hW=>by rw[(hg.ob_.upd hW id).cell i];exact dL
  have e0:∀W,Upd No wb W->W.cell? ⟨w2.heap.size,0,none⟩=some (Qi ak):=fun W hW=>(n1.upd hW id).cell 0
  have e1:∀W,Upd No wb W->W.cell? ⟨w2.heap.size,1,none⟩=some (Qi al):=fun W hW=>(n1.upd hW id).cell 1
  have e2:∀W,Upd No wb W->W.cell? ⟨w2.heap.size,2,none⟩=some (Qi (j:Int)):=fun W hW=>(n1.upd hW id).cell 2
  have HC:=Qh (fun(W:I0) (hW:Upd No wb W)=>Zue _ W A c out[i] ⟨ak,al,(j:Int)⟩ (Zbs out[i] ⟨ak,al,(j:Int)⟩) ((Zef (Za HO.out n3 Qo)).upd hW Qo) (by omega) (ZcS vm.out _));have k1:(0:Int)<=(i:Int):=Qn _;have k2:(i:Int)<(out.length:Int):=by omega
  rw[Zs0 vm.out]at HC;unfold DEnd.cells at HC;obtain⟨bv,vd⟩:∃b,decide ((⟨ak,al,(j:Int)⟩:DEnd)∈out[i])=b:=⟨_,rfl⟩;rw[vd]at HC;have HV:=Qh (HV.out.trans vd);have N3:=Qh n3;rw[ag];clear ag n1 n2 n3 n4 b4 hg B2 U2 HH dL wA HO vm bD vd;refine wpS (fun w'=>Upd No wb w') ?_ fun jH=>?_
  ·(first|exact(Il No _).drew|exact jH.trans hu3)
  (iterate 9 refine wpF ?_);refine wpZ 9 rfl fun K hK=>?_;go_simp
  (first
  |(go_at_call 181;refine Ck (HC.out _ jH) fun w3 hu3=>?_))
  try (go_wp2_with fail)
  refine hK.out _ _ ?_ fun jH=>?_
  ·(first|exact(Il No _).drew|exact jH.trans hu3)
  try simp only[Qa]
  (iterate 5 refine wpF ?_);refine wpD (Ii ?_)
  all_goals
   have HU:=Qh (N3.out.trans jH);clear jH g0 a0 oi e0 e1 e2;go_wp2;go_ret;exact⟨by rw[HV.out];rfl,HU.out⟩
 ·have pd:Zo out.length a=false:=by simpa using hR
  rw[pd]at hn;have HV:=Qh (show ZeR out a=false by unfold ZeR;rw[pd];rfl);obtain⟨af,at',ak,al⟩:=a;unfold HArc.cells at*;clear hR pd h u0 bA;go_enter Tryz.func126,Tryz.ntmps126;go_wp2_with fail;refine Ck hn.out fun w1 hu1=>?_;have hu:=Qh (U0.out.trans hu1);clear hu1 hn;go_wp2;go_ret;exact⟨by rw[HV.out];rfl,hu.out⟩
end
/- Digraphs:a row of ends put in another's place. -/
theorem Zhw{P:Ix}{ops:Array Oper}{o:Oper}{a:Act}{W:I0}{K:Act->I0->Prop}{Q:Exit->Act->I0->Prop}{E:Prop}(cm:o.guard=none){ty:Iy}{x y:Operand}(ho:o.op= .store ty x y)
  {g i:Nat} {t:Iy} {old:Ip} {A:OA} {n c:Nat} (hx:a.eval x= .pointer (some ⟨g,i,none⟩)) (hy:a.eval y= .slice A n c) (hb:Blk W g t old) (hi:(P.info? ty).map (·.size)=some 1) (hlt:i<old.length)
  (h:∀w',Blk w' g t (old.set i (.slice A n c))->Upd (One g) W w'->K (a.put o.dst undef) w'):if Region.wanted o (yielded ops a.tmps)=true then Oper.wp P o a W K Q else E:=by
 rw[if_pos (by simp[Region.wanted,cm])];have am:=run_storeCells_at P g i t [.slice A n c] 0 old.toArray W hb (by simp;omega) (by simp[Value.oneCell'])
 have he:old.take i++[.slice A n c]++old.drop (i+1)=old.set i (.slice A n c):=by
  rw[List.set_eq_take_append_cons_drop,if_pos hlt];simp
 simp only[Nat.add_zero,G1,Hv,Nat.zero_add,he]at am
 cases hq:P.info? ty with
 |none=>simp[hq]at hi
 |some z=>
  have hs:z.size=1:=by simpa[hq]using hi
  have dI:(storeVar ty ⟨g,i,none⟩ (.slice A n c)).run P W= .ok () (W.setRow g (old.set i (.slice A n c)).toArray):=by
   simp[storeVar,sizeOf,typeInfo,hq,Value.cells,hs,am]
  unfold Oper.wp execOp;simp only[ho,hx,hy,Instr.storeAt,Instr.sureAddr,Sem.run_bind,Sem.run_pure,Result.andThen_ok,dI];exact h _ (ZcX hb) (ZcL _ _)
theorem RowsD.set{w w':I0}{base:Nat}{hs:Ip}{ls:List (Iq)}(h:RowsD w base hs ls)(hA:ApartD hs){i:Nat}(hi:i<ls.length){v:Iz}(hv:hs[i]? =some v){S:Iw}(hu:Upd S w w')
  (hS:∀(j:Nat) u k,hs[j]? =some u->j≠i->Own u k->¬S k) {l:Iq} {A:OA} {c:Nat} (hn:w'.ownsRow base 160 3 (.slice A l.length c) l.length (l.map DEnd.cells).flatten):
  RowsD w' base (hs.set i (.slice A l.length c)) (ls.set i l):=by
 refine⟨by simpa using h.1,fun j hj=>?_⟩;have tI:j<ls.length:=by simpa using hj
 by_cases e:j=i
 ·subst e;refine⟨A,c,?_,?_⟩
  ·rw[List.getElem?_set_self (by rw[h.1];exact hi)];simp
  ·simpa using hn
 ·obtain⟨B,d,h1,h2⟩:=h.2 j tI;have hl:(ls.set i l)[j]=ls[j]:=by rw[List.getElem_set_ne (fun x=>e x.symm)]
  rw[hl];refine⟨B,d,?_,Za h2 hu (fun k hk=>hS j _ k h1 e hk)⟩;rw[List.getElem?_set_ne (fun x=>e x.symm)];exact h1
theorem ApartD.set{hs:Ip}(h:ApartD hs){N i:Nat}{v u:Iz}(hv:hs[i]? =some v)(hlt:∀x∈hs,∀k,Own x k->k<N)(hu:∀k,Own u k->Own v k∨N<=k):ApartD (hs.set i u):=by
 intro a b x y k ha hb hab hx hy;have cR:=(List.getElem?_eq_some_iff.1 hv).1;have mem:∀{j:Nat} {z:Iz},hs[j]? =some z->z∈hs:=fun e=>Gn e
 by_cases e1:a=i
 ·subst e1;rw[List.getElem?_set_self cR]at ha;rw[List.getElem?_set_ne hab]at hb
  cases ha
  rcases hu k hx with h1|h1
  ·exact h _ _ _ _ _ hv hb hab h1 hy
  ·have:=hlt _ (mem hb) _ hy;omega
 ·rw[List.getElem?_set_ne (fun x=>e1 x.symm)]at ha
  by_cases e2:b=i
  ·subst e2;rw[List.getElem?_set_self cR]at hb
   cases hb
   rcases hu k hy with h1|h1
   ·exact h _ _ _ _ _ ha hv hab hx h1
   ·have:=hlt _ (mem ha) _ hx;omega
  ·rw[List.getElem?_set_ne (fun x=>e2 x.symm)]at hb;exact h _ _ _ _ _ ha hb hab hx hy
def GG(w w':I0)(G:Iw):Nat->Prop:=fun k=>G k∨(w.heap.size<=k∧k<w'.heap.size)
theorem Grew.own{w:I0}{v u:Iz}(h:Grew w v u):∀k,Own u k->Own v k∨w.heap.size<=k:=by
 intro k hk;unfold Own at*;rcases h with h|⟨j,h1,h2⟩
 ·left;rw[<-h];exact hk
 ·right;rw[h1]at hk;cases hk;exact h2
section
variable {w w':I0} {G:Iw} {g:Nat} {out inn:List (Iq)} {n:Int} {ob ib:Nat} {oh ih:Ip} {base:Nat}
theorem GIs.rowO(h:GIs w G g out inn n ob ib oh ih base){i:Nat}{l':Iq}{v:Iz}{A4:OA}{c4:Nat}(hi:i<out.length)(hv:oh[i]? =some v)
  (hu:Upd (fun k=>Own v k∨k=ob) w w') (hB:Blk w' ob 163 (oh.set i (.slice A4 l'.length c4))) (ho:w'.ownsRow base 160 3 (.slice A4 l'.length c4) l'.length (l'.map DEnd.cells).flatten)
  (hg:Grew w v (.slice A4 l'.length c4)) (hf:l'.length<=100000):GIs w' (GG w w' G) g (out.set i l') inn n ob ib (oh.set i (.slice A4 l'.length c4)) ih base:=by
 have hlow:∀x∈oh++ih,∀k,Own x k->base<=k:=by
  intro x hx k hk;rcases Ib.1 hx with hx|hx
  ·obtain⟨j,hj,rfl⟩:=List.getElem_of_mem hx;obtain⟨B,d,h1,h2⟩:=h.ro.2 j (by rw[<-h.ro.1];exact hj);rw[Qg hj]at h1;rw[Option.some.inj h1]at hk;exact(h2.lt _ hk).1
  ·obtain⟨j,hj,rfl⟩:=List.getElem_of_mem hx;obtain⟨B,d,h1,h2⟩:=h.ri.2 j (by rw[<-h.ri.1];exact hj);rw[Qg hj]at h1;rw[Option.some.inj h1]at hk;exact(h2.lt _ hk).1
 have hl:=h.low;have pk:Own v g->False:=fun e=>by have:=hlow v (Gp _ (Gn hv)) g e;omega
 have pM:Own v ib->False:=fun e=>by have:=hlow v (Gp _ (Gn hv)) ib e;omega
 have fh:(oh.set i (.slice A4 l'.length c4))++ih=(oh++ih).set i (.slice A4 l'.length c4):=by
  rw[List.set_append_left];rw[h.ro.1];exact hi
 have jf:(oh++ih)[i]? =some v:=by rw[List.getElem?_append_left (by rw[h.ro.1];exact hi)];exact hv
 have hold:∀x∈oh++ih,∀k,Own x k->k<w.heap.size:=fun x hx k hk=>h.old k (h.inG.2.2.2 x hx k hk)
 constructor
 case blk=>simpa using h.blk.upd hu (fun e=>e.elim pk h.ne.1)
 case ob_=>exact hB
 case ib_=>exact h.ib_.upd hu (fun e=>e.elim pM (fun e=>h.ne.2.2 e.symm))
 case len=>simpa using h.len
 case ro=>
  refine h.ro.set (fun a b x y k ha hb=>h.dis a b x y k ?_ ?_) hi hv hu ?_ ho
  ·rw[List.getElem?_append_left (List.getElem?_eq_some_iff.1 ha).1];exact ha
  ·rw[List.getElem?_append_left (List.getElem?_eq_some_iff.1 hb).1];exact hb
  ·rintro j u k hj hne hk (e|e)
   ·exact h.dis j i u v k (by rw[List.getElem?_append_left (List.getElem?_eq_some_iff.1 hj).1];exact hj) jf hne hk e
   ·have:=hlow u (Gp _ (Gn hj)) k hk;omega
 case ri=>
  refine h.ri.upd hu ?_;rintro u hx k hk (e|e)
  ·obtain⟨j,hj,rfl⟩:=List.getElem_of_mem hx;refine h.dis (oh.length+j) i _ v k (by rw[List.getElem?_append_right (by omega)];simp[hj]) jf (by rw[h.ro.1];omega) hk e
  ·have:=hlow u (Gh _ hx) k hk;omega
 case dis=>rw[fh];exact h.dis.set jf hold hg.own
 case low=>exact h.low
 case ne=>exact h.ne
 case inG=>
  refine⟨.inl h.inG.1,.inl h.inG.2.1,.inl h.inG.2.2.1,?_⟩;rw[fh];intro x hx k hk;rcases List.mem_or_eq_of_mem_set hx with hx|rfl
  ·exact .inl (h.inG.2.2.2 x hx k hk)
  ·rcases hg.own k hk with e|e
   ·exact .inl (h.inG.2.2.2 v (Gn jf) k e)
   ·exact .inr ⟨e,(ho.lt _ hk).2⟩
 case old=>
  rintro k (hk|hk)
  ·exact Gu (h.old k hk) hu.size
  ·exact hk.2
 case few=>
  refine⟨by simpa using h.few.1,fun x hx=>?_,h.few.2.2⟩;rcases List.mem_or_eq_of_mem_set hx with hx|rfl
  ·exact h.few.2.1 x hx
  ·exact hf
theorem GIs.rowI(h:GIs w G g out inn n ob ib oh ih base){i:Nat}{l':Iq}{v:Iz}{A4:OA}{c4:Nat}(hi:i<inn.length)(hv:ih[i]? =some v)
  (hu:Upd (fun k=>Own v k∨k=ib) w w') (hB:Blk w' ib 163 (ih.set i (.slice A4 l'.length c4))) (ho:w'.ownsRow base 160 3 (.slice A4 l'.length c4) l'.length (l'.map DEnd.cells).flatten)
  (hg:Grew w v (.slice A4 l'.length c4)) (hf:l'.length<=100000):GIs w' (GG w w' G) g out (inn.set i l') n ob ib oh (ih.set i (.slice A4 l'.length c4)) base:=by
 have hlow:∀x∈oh++ih,∀k,Own x k->base<=k:=by
  intro x hx k hk;rcases Ib.1 hx with hx|hx
  ·obtain⟨j,hj,rfl⟩:=List.getElem_of_mem hx;obtain⟨B,d,h1,h2⟩:=h.ro.2 j (by rw[<-h.ro.1];exact hj);rw[Qg hj]at h1;rw[Option.some.inj h1]at hk;exact(h2.lt _ hk).1
  ·obtain⟨j,hj,rfl⟩:=List.getElem_of_mem hx;obtain⟨B,d,h1,h2⟩:=h.ri.2 j (by rw[<-h.ri.1];exact hj);rw[Qg hj]at h1;rw[Option.some.inj h1]at hk;exact(h2.lt _ hk).1
 have hl:=h.low;have pk:Own v g->False:=fun e=>by have:=hlow v (Gh _ (Gn hv)) g e;omega
 have pM:Own v ob->False:=fun e=>by have:=hlow v (Gh _ (Gn hv)) ob e;omega
 have fh:oh++(ih.set i (.slice A4 l'.length c4))=(oh++ih).set (oh.length+i) (.slice A4 l'.length c4):=by
  rw[List.set_append_right _ _ (by omega)];simp
 have jf:(oh++ih)[oh.length+i]? =some v:=by rw[List.getElem?_append_right (by omega)];simpa using hv
 have hold:∀x∈oh++ih,∀k,Own x k->k<w.heap.size:=fun x hx k hk=>h.old k (h.inG.2.2.2 x hx k hk)
 constructor
 case blk=>simpa using h.blk.upd hu (fun e=>e.elim pk h.ne.2.1)
 case ob_=>exact h.ob_.upd hu (fun e=>e.elim pM h.ne.2.2)
 case ib_=>exact hB
 case len=>simpa using h.len
 case ri=>
  refine h.ri.set (fun a b x y k ha hb hab=>h.dis (oh.length+a) (oh.length+b) x y k ?_ ?_ (by omega)) hi hv hu ?_ ho
  ·rw[List.getElem?_append_right (by omega)];simpa using ha
  ·rw[List.getElem?_append_right (by omega)];simpa using hb
  ·rintro j u k hj hne hk (e|e)
   ·exact h.dis (oh.length+j) (oh.length+i) u v k (by rw[List.getElem?_append_right (by omega)];simpa using hj) jf (by omega) hk e
   ·have:=hlow u (Gh _ (Gn hj)) k hk;omega
 case ro=>
  refine h.ro.upd hu ?_;rintro u hx k hk (e|e)
  ·obtain⟨j,hj,rfl⟩:=List.getElem_of_mem hx;refine h.dis j (oh.length+i) _ v k (by rw[List.getElem?_append_left hj];simp[hj]) jf (by omega) hk e
  ·have:=hlow u (Gp _ hx) k hk;omega
 case dis=>rw[fh];exact h.dis.set jf hold hg.own
 case low=>exact h.low
 case ne=>exact h.ne
 case inG=>
  refine⟨.inl h.inG.1,.inl h.inG.2.1,.inl h.inG.2.2.1,?_⟩;rw[fh];intro x hx k hk;rcases List.mem_or_eq_of_mem_set hx with hx|rfl
  ·exact .inl (h.inG.2.2.2 x hx k hk)
  ·rcases hg.own k hk with e|e
   ·exact .inl (h.inG.2.2.2 v (Gn jf) k e)
   ·exact .inr ⟨e,(ho.lt _ hk).2⟩
 case old=>
  rintro k (hk|hk)
  ·exact Gu (h.old k hk) hu.size
  ·exact hk.2
 case few=>
  refine⟨h.few.1,h.few.2.1,fun x hx=>?_⟩;rcases List.mem_or_eq_of_mem_set hx with hx|rfl
  ·exact h.few.2.2 x hx
  ·exact hf
end
