/- slices.Insert and slices.Delete at numbers. -/
import Derived.Lib.Overlaps
import Derived.Laws.Externs
import Derived.IntWalk
import Derived.Test.YtblplapkdmhikaaDxal
import Derived.Test.YtblplapkdmhikaaDxam
namespace Go.Proofs.Ytblplapkdmhikaa
set_option linter.unusedVariables false
set_option linter.unusedSimpArgs false
section
open Go.RowKit
def iC (n:Int):List Value:=[.int .i64 n]
theorem ZbY (l:List Int):(l.map iC).flatten=l.map (Value.int .i64):=by
 induction l with
 |nil=>rfl
 |cons a l ih=>simp only[List.map_cons,List.flatten_cons,ih];rfl
theorem ZgG {l:List Int}:∀r∈l.map iC,r.length=1:=fun r hr=>by
 obtain⟨e,_,rfl⟩:=List.mem_map.1 hr;rfl
theorem ZcC {l:List Int}:∀v∈(l.map iC).flatten,v.oneCell'=true:=fun v hv=>by
 obtain⟨r,hr,h⟩:=List.mem_flatten.1 hv;obtain⟨e,_,rfl⟩:=List.mem_map.1 hr;simp only[iC,List.mem_cons,List.not_mem_nil,or_false]at h;subst h;rfl
theorem ZD (l:List Int):(l.map iC).flatten.length=l.length*1:=by
 have:=Za0 (rows:=l.map iC) (size:=1) ZgG
 rwa [List.length_map]at this
theorem Zcp (l:List Int) (i:Nat) (hi:i≤l.length):(l.map iC).flatten.take i=((l.take i).map iC).flatten:=by
 conv=>lhs;rw[←List.take_append_drop i l,List.map_append,List.flatten_append]
 rw[List.take_append_of_le_length (by rw[ZD,List.length_take,Nat.min_eq_left hi];omega),List.take_of_length_le (by rw[ZD,List.length_take,Nat.min_eq_left hi];omega)]
theorem Zcq (l:List Int) (i:Nat) (hi:i≤l.length):(l.map iC).flatten.drop i=((l.drop i).map iC).flatten:=by
 conv=>lhs;rw[←List.take_append_drop i l,List.map_append,List.flatten_append]
 rw[List.drop_append,List.drop_of_length_le (by rw[ZD,List.length_take,Nat.min_eq_left hi];omega),ZD,List.length_take,Nat.min_eq_left hi,show i-i*1=0 by omega];rfl
theorem Za2 (g o j:Nat):(⟨g,o,none⟩:Addr).add j=⟨g,o+j,none⟩:=by unfold Addr.add;split<;>simp_all
theorem iov {W:World} {vb g:Nat} {c1 c2:List Value} {t1 t2:TypeId} (h1:Blk W vb t1 c1) (h2:Blk W g t2 c2) (hne:vb≠g) (hc:c2≠[]) (o la ca lb cb:Nat):
  (callFunc 115 #[.slice (some ⟨vb,0,none⟩) la ca,.slice (some ⟨g,o,none⟩) lb cb]).run Try.prog W= .ok (.value (.bool false)) W:=by
 rw[run_callFunc_extern Try.func115 (by kernel_rfl) (by kernel_rfl) (by kernel_rfl) (e:=Extern.SlicesOverlaps.overlaps #[53,53] #[4]) (by kernel_rfl)];unfold Blk at h1 h2
 rw[Lib.run_overlaps_apart W 53 4 3 Try.underlying53 1 Try.sizeOf3 ⟨vb,0,none⟩ ⟨g,o,none⟩ la ca lb cb hne t1 t2 c1.length c2.length
  (by simp[World.shape?,h1]) (by simp[World.shape?,h2]) (by intro e;exact hc (List.eq_nil_of_length_eq_zero e)) (frozen_of_row W vb 0 _ t1 h1) (frozen_of_row W vb _ _ t1 h1)]
 rfl
def ZgX (w:World) (base:Nat) (v:Value) (l:List Int) (e:Ending) (w':World):Prop:=
 ∃A' c',e= .returned (.slice A' l.length c')∧w'.ownsRow base 3 1 (.slice A' l.length c') l.length (l.map iC).flatten∧Upd (Own v) w w'∧ZbE w v (.slice A' l.length c')
def ZaF (l:List Int) (i:Nat) (x:Int):List Int:=l.take i++[x]++l.drop i
theorem Zcd (l:List Int) (i:Nat) (x:Int) (hi:i≤l.length):(ZaF l i x).length=l.length+1:=by
 unfold ZaF;simp;omega
theorem ZcW {R1 R2:List Value} (l:List Int) (i:Nat) (x:Int) (hi:i≤l.length) {cur:List Value} (h:cur=((l.take i).map iC).flatten++(iC x)++((l.drop i).map iC).flatten++R2):
  cur.take ((l.length+1)*1)=((ZaF l i x).map iC).flatten:=by
 subst h;have e:((ZaF l i x).map iC).flatten=((l.take i).map iC).flatten++(iC x)++((l.drop i).map iC).flatten:=by unfold ZaF;simp
 rw[←e,List.take_append_of_le_length (by rw[ZD,Zcd l i x hi];omega),List.take_of_length_le (by rw[ZD,Zcd l i x hi];omega)]
theorem Zeo (g c s:Nat):Zaf (some ⟨g,0,none⟩) c 0 s=some ⟨g,0,none⟩:=by unfold Zaf;split<;>simp[Addr.add]
theorem ZbB {g c i:Nat} (h:¬c=i):Zaf (some ⟨g,0,none⟩) c i 1=some ⟨g,i,none⟩:=by unfold Zaf;rw[if_neg h];simp[Za2]
theorem ZeE {cur cs E:List Value} {i n c:Nat} (hi:i<n) (hc:n+1≤c) (hl:cur.length=c*1) (hcs:cs=(cur.take (n*1)).drop i) (hE:E.length=1):
  (cur.take (i+1)++cs++cur.drop ((i+1)+cs.length)).take i++E++(cur.take (i+1)++cs++cur.drop ((i+1)+cs.length)).drop (i+E.length)=cur.take i++E++cs++cur.drop ((i+1)+cs.length):=by
 have h1:(cur.take (i+1)).length=(i+1):=by rw[List.length_take,Nat.min_eq_left (by omega)]
 rw[List.append_assoc (cur.take (i+1)),List.take_append_of_le_length (by omega),List.take_take,Nat.min_eq_left (by omega),List.drop_append,List.drop_of_length_le (by omega),h1,show i+E.length-(i+1)=0 by omega];simp
theorem Ze3 {A Z cs E:List Value} {i:Nat} (hA:A.length=i) (hE:E.length=1) (hZ:1≤Z.length):
  ((A++Z).take i++E++(A++Z).drop (i+E.length)).take (i+1)++cs++((A++Z).take i++E++(A++Z).drop (i+E.length)).drop ((i+1)+cs.length)=A++E++cs++((A++Z).drop (i+1)).drop cs.length:=by
 have h1:(A++Z).take i=A:=by rw[←hA];simp
 have h2:(A++E).length=(i+1):=by rw[List.length_append];omega
 rw[h1,hE,List.take_append_of_le_length (by omega),List.take_of_length_le (by omega),List.drop_append,List.drop_of_length_le (by omega),h2,show(i+1)+cs.length-(i+1)=cs.length by omega];simp
theorem ZeZ (x:Int):∀v∈(iC x),v.oneCell'=true:=by
 intro v hv;simp only[iC,List.mem_cons,List.not_mem_nil,or_false]at hv;subst hv;rfl
set_option maxRecDepth 100000 in
set_option maxHeartbeats 2000000 in
theorem Zg6 (w:World) (base:Nat) (A:Option Addr) (c:Nat) (l:List Int) (i:Nat) (x:Int) (vb:Nat) (hown:w.ownsRow base 3 1 (.slice A l.length c) l.length (l.map iC).flatten)
  (hv:Blk w vb 3 (iC x)) (hnv:¬Own (.slice A l.length c) vb) (hi:i≤l.length) (hl:l.length≤100000) (hbase:base≤w.heap.size):
  Calls Try.prog 87 #[.slice A l.length c,.int .i64 (i:Int),.slice (some ⟨vb,0,none⟩) 1 1] w (ZgX w base (.slice A l.length c) (ZaF l i x)):=by
 have hil:=Zcd l i x hi;have hcap:=Zcw hown
 by_cases hin:i=l.length
 ·have hcut:=fun W=>Z6 W Zp A l.length c i (by omega)
  have heq:((i:Int)==(l.length:Int))=true:=by rw[beq_iff_eq];omega
  have b0:(0:Int)≤(i:Int):=Qn _;have b1:(i:Int)≤(l.length:Int):=by omega
  have hflat:((ZaF l i x).map iC).flatten=(l.map iC).flatten++(iC x):=by
   unfold ZaF;rw[hin,List.take_length,List.drop_length];simp
  have HF:=Qh hflat;have HI:=Qh hil;have hsrc:Src w (some ⟨vb,0,none⟩) 1 1 (iC x):=⟨rfl,fun _=>⟨⟨vb,0,none⟩,rfl,fun j v hj=>by rw[Za2,Nat.zero_add,hv.cell];exact hj⟩⟩;have HS:=Qh hsrc;have HO:=Qh hown;clear hin hflat hil hsrc
  go_enter Try.func87,Try.ntmps87
  go_wp2_with (at_builtin;refine ZfG rfl rfl Zp (v:= .slice A l.length c) (n:=l.length) (m:=1) (news:=(iC x)) rfl rfl HO.out HS.out (by intro v hv;simp only[iC,List.mem_cons,List.not_mem_nil,or_false]at hv;subst hv;rfl) (by omega) (by omega) hbase ?_)
  intro v4 w4 hown4 hu4 hg4;obtain⟨A4,c4,rfl⟩:=ZbM hown4;go_wp2
  go_ret
  refine⟨A4,c4,by rw[HI.out];rfl,?_,hu4,?_⟩
  ·rw[HI.out,HF.out];exact hown4
  ·rw[HI.out];exact hg4
 ·have hi2:i<l.length:=by omega
  have hpos:0<l.length:=by omega
  obtain⟨g,cur,rfl,hgb,hB,hnc,hcl,hct,hcm⟩:=Zd3 hown hpos;have hvg:vb≠g:=fun e=>hnv (by subst e;rfl)
  have hcs:((l.drop i).map iC).flatten=(cur.take (l.length*1)).drop i:=by rw[hct,Zcq l i hi]
  have hcsl:((l.drop i).map iC).flatten.length=(l.length-i)*1:=by rw[ZD,List.length_drop]
  have htk:cur.take i=((l.take i).map iC).flatten:=by rw[←Zcp l i hi,←hct,List.take_take,Nat.min_eq_left (by omega)]
  have heq:((i:Int)==(l.length:Int))=false:=by rw[beq_eq_false_iff_ne];omega
  have b0:(0:Int)≤(i:Int):=Qn _;have b1:(i:Int)<(l.length:Int):=by omega
  have b2:(l.length:Int)≤100000:=by omega
  have b3:(l.length:Int)≤(c:Int):=by omega
  have hci:¬c=i:=by omega
  have k1:∀W,(Instr.slice 53 (.slice (some ⟨g,0,none⟩) l.length c) (some (.int .i64 (i:Int))) none none).run Try.prog W= .ok (.slice (some ⟨g,i,none⟩) (l.length-i) (c-i)) W:=fun W=>by
   have:=Z6 W Zp (some ⟨g,0,none⟩) l.length c i (by omega)
   rwa [ZbB hci]at this
  have hsrcS:∀W:World,W.heap[g]? =w.heap[g]?→∀(j:Nat) v,((l.drop i).map iC).flatten[j]? =some v→W.cell? ((⟨g,i,none⟩:Addr).add j)=some v:=fun W hW j v hj=>by
   have hBW:Blk W g 3 cur:=hW.trans hB;rw[Za2,hBW.cell];rw[hcs,List.getElem?_drop,List.getElem?_take]at hj
   split at hj
   ·exact hj
   ·cases hj
  have hsrcV:∀W:World,W.heap[vb]? =w.heap[vb]?→∀(j:Nat) v,(iC x)[j]? =some v→W.cell? ((⟨vb,0,none⟩:Addr).add j)=some v:=fun W hW j v hj=>by
   have hBW:Blk W vb 3 (iC x):=hW.trans hv;rw[Za2,Nat.zero_add,hBW.cell];exact hj
  by_cases hroom:l.length+1≤c
  ·have hci2:¬c=i+1:=by omega
   have b4:¬(c:Int)<(l.length:Int)+1:=by omega
   have k2:∀W,(Instr.slice 53 (.slice (some ⟨g,0,none⟩) l.length c) none (some (.int .i64 ((l.length:Int)+1))) none).run Try.prog W= .ok (.slice (some ⟨g,0,none⟩) (l.length+1) c) W:=fun W=>by
    have:=ZbJ W Zp (some ⟨g,0,none⟩) l.length c (l.length+1) hroom
    rwa [Zeo]at this
   have k3:∀W,(Instr.slice 53 (.slice (some ⟨g,0,none⟩) (l.length+1) c) (some (.int .i64 ((i:Int)+1))) none none).run Try.prog W= .ok (.slice (some ⟨g,(i+1),none⟩) (l.length-i) (c-(i+1))) W:=fun W=>by
    have:=Z6 W Zp (some ⟨g,0,none⟩) (l.length+1) c (i+1) (by omega)
    rwa [ZbB hci2,show l.length+1-(i+1)=l.length-i by omega]at this
   have k4:∀W,(Instr.slice 53 (.slice (some ⟨g,0,none⟩) (l.length+1) c) (some (.int .i64 (i:Int))) none none).run Try.prog W= .ok (.slice (some ⟨g,i,none⟩) (l.length+1-i) (c-i)) W:=fun W=>by
    have:=Z6 W Zp (some ⟨g,0,none⟩) (l.length+1) c i (by omega)
    rwa [ZbB hci]at this
   have hov:=iov hv hB hvg (by intro e;rw[e]at hcl;simp at hcl;omega) (i+1) 1 1 (l.length-i) (c-(i+1));have HS:=Qh hsrcS;have HVs:=Qh hsrcV;have HB:=Qh hB;have HCL:=Qh hcsl;have HLc:=Qh (ZeE (E:=(iC x)) hi2 hroom hcl hcs rfl);have HTK:=Qh htk;have HI:=Qh hil;have HCl:=Qh hcl;have HOv:=Qh hov;have HVL:=Qh hv.lt;clear hsrcS hsrcV hcs hcsl htk hil hct hcl hown hv hnv hB
   go_enter Try.func87,Try.ntmps87
   have hov:=HOv.out;have b5:IntKind.i64.wrap ((i:Int)+1)=(i:Int)+1:=IntWalk.i64_in _ (by omega);have b6:(0:Int)≤(i:Int)+1:=by omega
   go_wp2;refine wp_region_noPanic ?_;refine wp_region_held_drew (S:=(fun w'=>Upd (One g) w w')) (by kernel_rfl) ?_ (fun hHeld=> ?_)
   ·(first|exact(Upd.refl _ _).drew|exact hU5)
   refine wpK 0 rfl ?_;refine wpK 1 rfl ?_;refine wpK 2 rfl ?_;refine wpK 3 rfl ?_;refine wpK 4 rfl ?_;refine wpK 5 rfl ?_;refine wpK 6 rfl ?_;refine wpK 7 rfl ?_;refine wpR [8] ?_;refine wpC rfl (fun K hK=> ?_) AllReadyH.nil
   (first
  |(refine Zch rfl rfl Zp (g:=g) (off:=(i+1)) (n:=l.length-i) (cs:=((l.drop i).map iC).flatten) rfl rfl (show Blk _ g 3 cur from HB.out) (by simp only[Nat.min_def];split<;>omega) HCL.out (HS.out _ rfl) (by rw[HCL.out,HCl.out];omega) ZcC ?_;intro w5 hB5 hu5;have hU5:Upd (One g) w w5:=hu5.of_drew))
   refine hK.out _ _ ?_ (fun hHeld=> ?_)
   ·(first|exact(Upd.refl _ _).drew|exact hU5)
   clear hK K
   try simp only[Act.put,sT,sS,sZ]
   refine wpD (NoPanic.normal ?_);have HU5:=Qh hU5;have HB5:=Qh hB5;clear hHeld hU5 hu5 hB5 hov b5
   go_wp2_with (refine Zdb rfl rfl Zp (g:=g) (off:=i) (n:=1) (cs:=(iC x)) rfl rfl HB5.out (by simp only[Nat.min_def];split<;>omega) rfl (HVs.out _ (HU5.out.block vb HVL.out hvg)) (by simp only[List.length_append,List.length_take,List.length_drop,HCL.out,HCl.out];rw[Nat.min_eq_left (by omega)];show i+1≤_;omega) (ZeZ x) ?_;intro w6 hB6 hu6)
   rw[HLc.out]at hB6;have hU6:=HU5.out.trans hu6
   go_ret
   have hown6:=Zbu (size:=1) (n:=l.length+1) (xs:=((ZaF l i x).map iC).flatten) hB6 hgb hroom (by
    simp only[List.length_append,List.length_take,List.length_drop,HCL.out,HCl.out];rw[Nat.min_eq_left (by omega)]
    show i+1+_+_=_
    omega) (by rw[HTK.out];exact ZcW (R1:=[]) l i x hi rfl) hcm (by rw[ZD,HI.out])
   refine⟨some ⟨g,0,none⟩,c,by rw[HI.out];rfl,?_,hU6.mono (fun j _ e=>by cases e;rfl),.inl rfl⟩;rw[HI.out];exact hown6
  ·have b4:(c:Int)<(l.length:Int)+1:=by omega
   have hk:((l.length:Int)+1-(i:Int))=((l.length+1-i:Nat):Int):=by omega
   have k5:∀W,(Instr.slice 53 (.slice (some ⟨g,0,none⟩) l.length c) none (some (.int .i64 (i:Int))) none).run Try.prog W= .ok (.slice (some ⟨g,0,none⟩) i c) W:=fun W=>by
    have:=ZbJ W Zp (some ⟨g,0,none⟩) l.length c i (by omega)
    rwa [Zeo]at this
   have hold:∀(j:Nat) v,((l.take i).map iC).flatten[j]? =some v→w.cell? ⟨g,j,none⟩=some v:=fun j v hj=>by
    rw[hB.cell];rw[←htk,List.getElem?_take]at hj
    split at hj
    ·exact hj
    ·cases hj
   have htl:((l.take i).map iC).flatten.length=i*1:=by rw[ZD,List.length_take,Nat.min_eq_left (by omega)]
   have HS:=Qh hsrcS;have HVs:=Qh hsrcV;have HGL:=Qh hB.lt;have HCL:=Qh hcsl;have HI:=Qh hil;have HOld:=Qh hold;have HTL:=Qh htl;have HVL:=Qh hv.lt;have HK:=Qh (show i+(l.length+1-i)=l.length+1 by omega);clear hsrcS hsrcV hcs hcsl htk hil hct hcl hown hv hnv hB hold htl
   go_enter Try.func87,Try.ntmps87
   have k6:∀(c':Nat) W,l.length+1≤c'→(Instr.slice 53 (.slice (some ⟨w.heap.size,0,none⟩) (l.length+1) c') (some (.int .i64 (i:Int))) none none).run Try.prog W= .ok (.slice (some ⟨w.heap.size,i,none⟩) (l.length+1-i) (c'-i)) W:=fun c' W hc'=>by
    have:=Z6 W Zp (some ⟨w.heap.size,0,none⟩) (l.length+1) c' i (by omega)
    rwa [ZbB (by omega)]at this
   have k7:∀(c':Nat) W,l.length+1≤c'→(Instr.slice 53 (.slice (some ⟨w.heap.size,0,none⟩) (l.length+1) c') (some (.int .i64 ((i:Int)+1))) none none).run Try.prog W= .ok (.slice (some ⟨w.heap.size,(i+1),none⟩) (l.length-i) (c'-(i+1))) W:=fun c' W hc'=>by
    have:=Z6 W Zp (some ⟨w.heap.size,0,none⟩) (l.length+1) c' (i+1) (by omega)
    rwa [ZbB (by omega),show l.length+1-(i+1)=l.length-i by omega]at this
   have b5:IntKind.i64.wrap ((i:Int)+1)=(i:Int)+1:=IntWalk.i64_in _ (by omega);have b6:(0:Int)≤(i:Int)+1:=by omega
   have hKe:i+(l.length+1-i)=l.length+1:=HK.out
   go_wp2_with (first
    |(at_builtin;refine Zfd rfl rfl Zp Try.underlying3 (g:=g) (n:=i) (c:=c) (k:=l.length+1-i) rfl rfl HTL.out HOld.out (by omega) (by omega) (by omega) (by omega) ?_;intro c5 zs w5 hc5 hm5 hB5 hl5 hu5;rw[HK.out]at hc5;have HB5:=Qh hB5;have HL5:=Qh hl5;clear hB5 hl5)
    |(refine Zdb rfl rfl Zp (g:=w.heap.size) (off:=i) (n:=1) (cs:=(iC x)) rfl rfl HB5.out (by simp only[Nat.min_def];split<;>omega) rfl (HVs.out _ (hu5.block vb HVL.out id)) (by rw[HL5.out];show i+1≤_;omega) (ZeZ x) ?_;intro w6 hB6 hu6;have HB6:=Qh hB6;clear hB6))
   have HS6:=HS.out w6 ((hu6.block g (Nat.lt_of_lt_of_le HGL.out hu5.size) (by intro e;have:=HGL.out;cases e;omega)).trans (hu5.block g HGL.out id));have HSS:=Qh HS6
   have hlen6:((((l.take i).map iC).flatten++zs).take i++(iC x)++(((l.take i).map iC).flatten++zs).drop (i+(iC x).length)).length=c5*1:=by
    have h5:=HL5.out;simp only[List.length_append,List.length_take,List.length_drop]at h5 ⊢
    show _+1+(_-(i+1))=_
    omega
   have HL6:=Qh hlen6;clear HS6 hlen6;refine wp_region_noPanic ?_;refine wp_region_held_drew (S:=(fun w'=>Upd (One w.heap.size) w6 w')) (by kernel_rfl) ?_ (fun hHeld=> ?_)
   ·(first|exact(Upd.refl _ _).drew|exact hU7)
   refine wpK 0 rfl ?_;refine wpK 1 rfl ?_;refine wpK 2 rfl ?_;refine wpK 3 rfl ?_;refine wpK 4 rfl ?_;refine wpK 5 rfl ?_;refine wpK 6 rfl ?_;refine wpK 7 rfl ?_;refine wpR [8] ?_;refine wpC rfl (fun K hK=> ?_) AllReadyH.nil
   (first
  |(refine Zch rfl rfl Zp (g:=w.heap.size) (off:=(i+1)) (n:=l.length-i) (cs:=((l.drop i).map iC).flatten) rfl rfl (show Blk _ w.heap.size 3 _ from HB6.out) (by simp only[Nat.min_def];split<;>omega) HCL.out HSS.out (by rw[HL6.out,HCL.out];omega) ZcC ?_;intro w7 hB7 hu7;have hU7:Upd (One w.heap.size) w6 w7:=hu7.of_drew))
   refine hK.out _ _ ?_ (fun hHeld=> ?_)
   ·(first|exact(Upd.refl _ _).drew|exact hU7)
   clear hK K
   try simp only[Act.put,sT,sS,sZ]
   refine wpD (NoPanic.normal ?_);have HB7:=hB7
   have hz5:1≤zs.length:=by
    have h5:=HL5.out;rw[List.length_append,HTL.out]at h5;omega
   have hlen7:=HL6.out;rw[Ze3 (by rw[HTL.out];omega) rfl hz5]at HB7;have hU:=(hu5.mono (T:=One w.heap.size) (fun _ _ e=>e.elim)).trans (hu6.trans hU7);have H7:=Qh (And.intro HB7 hU);clear hB7 HB7 hu7 hU hHeld hU7 k6 k7 hu6 hu5;go_wp2
   go_ret
   have hown7:=Zbu (size:=1) (n:=l.length+1) (xs:=((ZaF l i x).map iC).flatten) H7.out.1 hbase hc5 (by
    have h5:=HL5.out;simp only[List.length_append,List.length_drop,HCL.out,HTL.out]at h5 ⊢
    show i*1+1+_+_=_
    omega) (ZcW (R1:=[]) l i x hi rfl) hm5 (by rw[ZD,HI.out])
   refine⟨some ⟨w.heap.size,0,none⟩,c5,by rw[HI.out];rfl,?_,H7.out.2.trans_ (Upd.refl _ _) (fun _ _ e=>e) |>.mono (fun j hj e=>by cases e;omega),.inr ⟨_,rfl,Nat.le_refl _⟩⟩;rw[HI.out];exact hown7
def Zbe (l:List Int) (i:Nat):List Int:=l.take i++l.drop (i+1)
theorem ZfE (l:List Int) (i:Nat) (hi:i<l.length):(Zbe l i).length=l.length-1:=by
 unfold Zbe;simp;omega
def ZgY (w:World) (base:Nat) (v:Value) (l:List Int) (e:Ending) (w':World):Prop:=
 ∃A' c',e= .returned (.slice A' l.length c')∧w'.ownsRow base 3 1 (.slice A' l.length c') l.length (l.map iC).flatten∧Upd (Own v) w w'∧ZbE w v (.slice A' l.length c')
set_option maxRecDepth 100000 in
set_option maxHeartbeats 2000000 in
theorem Zg7 (w:World) (base:Nat) (A:Option Addr) (c:Nat) (l:List Int) (i:Nat) (hown:w.ownsRow base 3 1 (.slice A l.length c) l.length (l.map iC).flatten) (hi:i<l.length) (hl:l.length≤100000):
  Calls Try.prog 92 #[.slice A l.length c,.int .i64 (i:Int),.int .i64 ((i:Int)+1)] w (ZgY w base (.slice A l.length c) (Zbe l i)):=by
 have hil:=ZfE l i hi;have hpos:0<l.length:=by omega
 obtain⟨g,cur,rfl,hgb,hB,hnc,hcl,hct,hcm⟩:=Zd3 hown hpos;have hcs:((l.drop (i+1)).map iC).flatten=(cur.take (l.length*1)).drop (i+1):=by rw[hct,Zcq l (i+1) (by omega)]
 have hcsl:((l.drop (i+1)).map iC).flatten.length=(l.length-(i+1))*1:=by rw[ZD,List.length_drop]
 have htk:cur.take i=((l.take i).map iC).flatten:=by rw[←Zcp l i (by omega),←hct,List.take_take,Nat.min_eq_left (by omega)]
 have b0:(0:Int)≤(i:Int):=Qn _;have b1:(i:Int)<(l.length:Int):=by omega
 have b2:(l.length:Int)≤100000:=by omega
 have b3:(l.length:Int)≤(c:Int):=by omega
 have heq:((i:Int)==(i:Int)+1)=false:=by rw[beq_eq_false_iff_ne];omega
 have hsrc:∃ad,(∀W,(Instr.slice 53 (.slice (some ⟨g,0,none⟩) l.length c) (some (.int .i64 ((i:Int)+1))) none none).run Try.prog W= .ok (.slice (some ad) (l.length-(i+1)) (c-(i+1))) W)∧
   ∀(j:Nat) v,((l.drop (i+1)).map iC).flatten[j]? =some v→w.cell? (ad.add j)=some v:=by
  have hr:=fun W=>Z6 W Zp (some ⟨g,0,none⟩) l.length c (i+1) (by omega)
  by_cases hci:c=i+1
  ·refine⟨⟨g,0,none⟩,fun W=> ?_,fun j v hj=> ?_⟩
   ·have:=hr W;unfold Zaf at this;rw[if_pos hci]at this;exact this
   ·have h0:((l.drop (i+1)).map iC).flatten=[]:=List.eq_nil_of_length_eq_zero (by rw[hcsl];omega);rw[h0]at hj;simp at hj
  ·refine⟨⟨g,(i+1),none⟩,fun W=> ?_,fun j v hj=> ?_⟩
   ·have:=hr W
    rwa [ZbB hci]at this
   ·rw[Za2,hB.cell];rw[hcs,List.getElem?_drop,List.getElem?_take]at hj
    split at hj
    ·exact hj
    ·cases hj
 obtain⟨ad,k1,hsrc2⟩:=hsrc
 have k2:∀W,(Instr.slice 53 (.slice (some ⟨g,0,none⟩) l.length c) none (some (.int .i64 (i:Int))) none).run Try.prog W= .ok (.slice (some ⟨g,0,none⟩) i c) W:=fun W=>by
  have:=ZbJ W Zp (some ⟨g,0,none⟩) l.length c i (by omega)
  rwa [Zeo]at this
 obtain⟨p,hp⟩:∃p,l.length=p+1:=⟨l.length-1,by omega⟩;have hsum:i+(l.length-(i+1))=p:=by omega
 have k3:∀W,(Instr.slice 53 (.slice (some ⟨g,0,none⟩) p c) (some (.int .i64 (p:Int))) (some (.int .i64 (l.length:Int))) none).run Try.prog W= .ok (.slice (some ⟨g,p,none⟩) 1 (c-p)) W:=fun W=>by
  have:=Zed W Zp (some ⟨g,0,none⟩) p c p l.length (by omega) (by omega)
  rwa [ZbB (by omega),show l.length-p=1 by omega]at this
 have HP:=Qh hp;have HB:=Qh hB;have HS:=Qh hsrc2;have HCL:=Qh hcsl;have HTK:=Qh htk;have HCl:=Qh hcl;have HI:=Qh hil;have b5:IntKind.i64.wrap ((i:Int)+1)=(i:Int)+1:=IntWalk.i64_in _ (by omega);have b4:(0:Int)≤(p:Int):=Qn _;clear hB hsrc2 hcs hcsl htk hcl hct hil hown hp
 go_enter Try.func92,Try.ntmps92
 go_wp2;refine wp_region_noPanic ?_;refine wp_region_held_drew (S:=(fun w'=>Upd (One g) w w')) (by kernel_rfl) ?_ (fun hHeld=> ?_)
 ·(first|exact(Upd.refl _ _).drew|exact hU5)
 refine wpK 0 rfl ?_;refine wpK 1 rfl ?_;refine wpK 2 rfl ?_;refine wpK 3 rfl ?_;refine wpK 4 rfl ?_;refine wpK 5 rfl ?_;refine wpR [6] ?_;refine wpC rfl (fun K hK=> ?_) AllReadyH.nil
 (first
  |(refine ZcZ rfl rfl Zp (g:=g) (n:=i) (m:=l.length-(i+1)) (news:=((l.drop (i+1)).map iC).flatten) rfl rfl (show Blk _ g 3 cur from HB.out) HCL.out HS.out (by omega) (by rw[HCL.out,HCl.out];omega) ZcC ?_;intro w5 hB5 hu5;simp only[Nat.mul_one]at hB5;have hU5:Upd (One g) w w5:=hu5.of_drew))
 refine hK.out _ _ ?_ (fun hHeld=> ?_)
 ·(first|exact(Upd.refl _ _).drew|exact hU5)
 clear hK K
 try simp only[Act.put,sT,sS,sZ]
 refine wpK 7 rfl ?_;refine wpD (NoPanic.normal ?_);have HU5:=Qh hU5;have HB5:=Qh hB5
 have hlen5:(cur.take i++((l.drop (i+1)).map iC).flatten++cur.drop (i+((l.drop (i+1)).map iC).flatten.length)).length=c*1:=by
  have h1:=HP.out;simp only[List.length_append,List.length_take,List.length_drop,HCL.out,HCl.out];omega
 have HL5:=Qh hlen5;clear hHeld hU5 hu5 hB5 b5 hlen5
 go_wp2_with (refine Zes rfl rfl Zp (z:= .int .i64 0) (fun w=>by kernel_rfl) rfl (by intro v hv;simp[Value.cells]at hv;subst hv;rfl) (g:=g) (off:=p) (n:=1) rfl (by omega) HB5.out (by rw[HL5.out];have:=HP.out;omega) ?_;intro zs w6 hzs hB6 hu6)
 have hp:=HP.out
 have hfin:(((cur.take i++((l.drop (i+1)).map iC).flatten++cur.drop (i+((l.drop (i+1)).map iC).flatten.length)).take p++zs++(cur.take i++((l.drop (i+1)).map iC).flatten++cur.drop (i+((l.drop (i+1)).map iC).flatten.length)).drop (p+zs.length))).take p=((Zbe l i).map iC).flatten:=by
  have e:((Zbe l i).map iC).flatten=cur.take i++((l.drop (i+1)).map iC).flatten:=by rw[HTK.out];unfold Zbe;simp
  have hl2:(cur.take i++((l.drop (i+1)).map iC).flatten).length=p:=by rw[←e,ZD,HI.out];omega
  rw[e,List.append_assoc (List.take p _),List.take_append_of_le_length (by simp only[List.length_take,HL5.out];omega),List.take_take,Nat.min_self,List.take_append_of_le_length (by omega),List.take_of_length_le (by omega)]
 have hlen6:((cur.take i++((l.drop (i+1)).map iC).flatten++cur.drop (i+((l.drop (i+1)).map iC).flatten.length)).take p++zs++(cur.take i++((l.drop (i+1)).map iC).flatten++cur.drop (i+((l.drop (i+1)).map iC).flatten.length)).drop (p+zs.length)).length=c*1:=by
  rw[List.length_append,List.length_append,List.length_take,List.length_drop,HL5.out,hzs];omega
 have hown6:=Zbu (size:=1) (n:=p) (xs:=((Zbe l i).map iC).flatten) hB6 hgb (by omega) hlen6 (by rw[Nat.mul_one];exact hfin) hcm (by rw[ZD,HI.out];omega);have H6:=Qh (And.intro hown6 (HU5.out.trans hu6));clear hfin hlen6 hown6 hB6 hu6 hp;go_wp2
 go_ret
 have hip:(Zbe l i).length=p:=by rw[HI.out,HP.out];rfl
 refine⟨some ⟨g,0,none⟩,c,by rw[hip];rfl,?_,H6.out.2.mono (fun j _ e=>by cases e;rfl),.inl rfl⟩;rw[hip];exact H6.out.1
end
end Go.Proofs.Ytblplapkdmhikaa
