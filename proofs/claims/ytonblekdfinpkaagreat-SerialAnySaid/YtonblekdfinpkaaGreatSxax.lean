/- Digraphs: an end put among others. -/
import Derived.Lib.Overlaps
import Derived.Laws.Externs
import Derived.Test.YtonblekdfinpkaaGreatSxal
import Derived.Test.YtonblekdfinpkaaGreatSxat
namespace Go.Proofs.YtonblekdfinpkaaGreat
set_option linter.unusedVariables false
set_option linter.unusedSimpArgs false
section
open Go.RowKit
theorem ZU:SlT Tryz.prog 95 92 3 24:=SlT.mk_ Tryz.underlying95 (z:= .agg #[.int .i64 0,.int .i64 0,.int .i64 0]) (by kernel_rfl) rfl (by omega)
theorem ZiE {l:List DEnd}:∀r∈l.map DEnd.cells,r.length=3:=fun r hr=>by
 obtain⟨e,_,rfl⟩:=List.mem_map.1 hr;rfl
theorem ZiD {l:List DEnd}:∀v∈(l.map DEnd.cells).flatten,v.oneCell'=true:=fun v hv=>by
 obtain⟨r,hr,h⟩:=List.mem_flatten.1 hv;obtain⟨e,_,rfl⟩:=List.mem_map.1 hr;simp only[DEnd.cells,List.mem_cons,List.not_mem_nil,or_false]at h;rcases h with rfl|rfl|rfl<;>rfl
theorem ZaD (l:List DEnd):(l.map DEnd.cells).flatten.length=l.length*3:=by
 have:=ZdC (rows:=l.map DEnd.cells) (size:=3) ZiE
 rwa [List.length_map]at this
theorem Zl7 (l:List DEnd) (i:Nat) (hi:i≤l.length):(l.map DEnd.cells).flatten.take (i*3)=((l.take i).map DEnd.cells).flatten:=by
 conv=>lhs;rw[←List.take_append_drop i l,List.map_append,List.flatten_append]
 rw[List.take_append_of_le_length (by rw[ZaD,List.length_take,Nat.min_eq_left hi];omega),List.take_of_length_le (by rw[ZaD,List.length_take,Nat.min_eq_left hi];omega)]
theorem Zl8 (l:List DEnd) (i:Nat) (hi:i≤l.length):(l.map DEnd.cells).flatten.drop (i*3)=((l.drop i).map DEnd.cells).flatten:=by
 conv=>lhs;rw[←List.take_append_drop i l,List.map_append,List.flatten_append]
 rw[List.drop_append,List.drop_of_length_le (by rw[ZaD,List.length_take,Nat.min_eq_left hi];omega),ZaD,List.length_take,Nat.min_eq_left hi,Nat.sub_self];rfl
theorem ZcN (g o j:Nat):(⟨g,o,none⟩:Addr).add j=⟨g,o+j,none⟩:=by unfold Addr.add;split<;>simp_all
theorem dov {W:World} {vb g:Nat} {c1 c2:List Value} {t1 t2:TypeId} (h1:Blk W vb t1 c1) (h2:Blk W g t2 c2) (hne:vb≠g) (hc:c2≠[]) (o la ca lb cb:Nat):
  (callFunc 175 #[.slice (some ⟨vb,0,none⟩) la ca,.slice (some ⟨g,o,none⟩) lb cb]).run Tryz.prog W= .ok (.value (.bool false)) W:=by
 rw[run_callFunc_extern Tryz.func175 (by kernel_rfl) (by kernel_rfl) (by kernel_rfl) (e:=Extern.SlicesOverlaps.overlaps #[95,95] #[4]) (by kernel_rfl)];unfold Blk at h1 h2
 rw[Lib.run_overlaps_apart W 95 4 92 Tryz.underlying95 3 Tryz.sizeOf92 ⟨vb,0,none⟩ ⟨g,o,none⟩ la ca lb cb hne t1 t2 c1.length c2.length
  (by simp[World.shape?,h1]) (by simp[World.shape?,h2]) (by intro e;exact hc (List.eq_nil_of_length_eq_zero e)) (frozen_of_row W vb 0 _ t1 h1) (frozen_of_row W vb _ _ t1 h1)]
 rfl
def ZrM (w:World) (base:Nat) (v:Value) (l:List DEnd) (e:Ending) (w':World):Prop:=
 ∃A' c',e= .returned (.slice A' l.length c')∧w'.ownsRow base 92 3 (.slice A' l.length c') l.length (l.map DEnd.cells).flatten∧Upd (Own v) w w'∧Grew w v (.slice A' l.length c')
def Zbv (l:List DEnd) (i:Nat) (x:DEnd):List DEnd:=l.take i++[x]++l.drop i
theorem Zcg (l:List DEnd) (i:Nat) (x:DEnd) (hi:i≤l.length):(Zbv l i x).length=l.length+1:=by
 unfold Zbv;simp;omega
theorem ZjS {R1 R2:List Value} (l:List DEnd) (i:Nat) (x:DEnd) (hi:i≤l.length) {cur:List Value} (h:cur=((l.take i).map DEnd.cells).flatten++x.cells++((l.drop i).map DEnd.cells).flatten++R2):
  cur.take ((l.length+1)*3)=((Zbv l i x).map DEnd.cells).flatten:=by
 subst h;have e:((Zbv l i x).map DEnd.cells).flatten=((l.take i).map DEnd.cells).flatten++x.cells++((l.drop i).map DEnd.cells).flatten:=by unfold Zbv;simp
 rw[←e,List.take_append_of_le_length (by rw[ZaD,Zcg l i x hi];omega),List.take_of_length_le (by rw[ZaD,Zcg l i x hi];omega)]
theorem ZpA (g c s:Nat):Zb8 (some ⟨g,0,none⟩) c 0 s=some ⟨g,0,none⟩:=by unfold Zb8;split<;>simp[Addr.add]
theorem Zhj {g c i s:Nat} (h:¬c=i):Zb8 (some ⟨g,0,none⟩) c i s=some ⟨g,i*s,none⟩:=by unfold Zb8;rw[if_neg h];simp[ZcN]
theorem Zn5 {cur cs E:List Value} {i n c:Nat} (hi:i<n) (hc:n+1≤c) (hl:cur.length=c*3) (hcs:cs=(cur.take (n*3)).drop (i*3)) (hE:E.length=3):
  (cur.take ((i+1)*3)++cs++cur.drop ((i+1)*3+cs.length)).take (i*3)++E++(cur.take ((i+1)*3)++cs++cur.drop ((i+1)*3+cs.length)).drop (i*3+E.length)=cur.take (i*3)++E++cs++cur.drop ((i+1)*3+cs.length):=by
 have h1:(cur.take ((i+1)*3)).length=(i+1)*3:=by rw[List.length_take,Nat.min_eq_left (by omega)]
 rw[List.append_assoc (cur.take ((i+1)*3)),List.take_append_of_le_length (by omega),List.take_take,Nat.min_eq_left (by omega),List.drop_append,List.drop_of_length_le (by omega),h1,show i*3+E.length-(i+1)*3=0 by omega];simp
theorem ZoY {A Z cs E:List Value} {i:Nat} (hA:A.length=i*3) (hE:E.length=3) (hZ:3≤Z.length):
  ((A++Z).take (i*3)++E++(A++Z).drop (i*3+E.length)).take ((i+1)*3)++cs++((A++Z).take (i*3)++E++(A++Z).drop (i*3+E.length)).drop ((i+1)*3+cs.length)=A++E++cs++((A++Z).drop (i*3+3)).drop cs.length:=by
 have h1:(A++Z).take (i*3)=A:=by rw[←hA];simp
 have h2:(A++E).length=(i+1)*3:=by rw[List.length_append];omega
 rw[h1,hE,List.take_append_of_le_length (by omega),List.take_of_length_le (by omega),List.drop_append,List.drop_of_length_le (by omega),h2,show(i+1)*3+cs.length-(i+1)*3=cs.length by omega];simp
theorem Zj3 (x:DEnd):∀v∈x.cells,v.oneCell'=true:=by
 intro v hv;simp only[DEnd.cells,List.mem_cons,List.not_mem_nil,or_false]at hv;rcases hv with rfl|rfl|rfl<;>rfl
set_option maxRecDepth 100000 in
set_option maxHeartbeats 2000000 in
theorem Zti (w:World) (base:Nat) (A:Option Addr) (c:Nat) (l:List DEnd) (i:Nat) (x:DEnd) (vb:Nat) (hown:w.ownsRow base 92 3 (.slice A l.length c) l.length (l.map DEnd.cells).flatten)
  (hv:Blk w vb 92 x.cells) (hnv:¬Own (.slice A l.length c) vb) (hi:i≤l.length) (hl:l.length≤100000) (hbase:base≤w.heap.size):
  Calls Tryz.prog 104 #[.slice A l.length c,.int .i64 (i:Int),.slice (some ⟨vb,0,none⟩) 1 1] w (ZrM w base (.slice A l.length c) (Zbv l i x)):=by
 have hil:=Zcg l i x hi;have hcap:=ZkM hown
 by_cases hin:i=l.length
 ·have hcut:=fun W=>Zce W ZU A l.length c i (by omega)
  have heq:((i:Int)==(l.length:Int))=true:=by rw[beq_iff_eq];omega
  have b0:(0:Int)≤(i:Int):=Qn _;have b1:(i:Int)≤(l.length:Int):=by omega
  have hflat:((Zbv l i x).map DEnd.cells).flatten=(l.map DEnd.cells).flatten++x.cells:=by
   unfold Zbv;rw[hin,List.take_length,List.drop_length];simp
  have HF:=Qh hflat;have HI:=Qh hil;have hsrc:Src w (some ⟨vb,0,none⟩) 1 3 x.cells:=⟨rfl,fun _=>⟨⟨vb,0,none⟩,rfl,fun j v hj=>by rw[ZcN,Nat.zero_add,hv.cell];exact hj⟩⟩;have HS:=Qh hsrc;have HO:=Qh hown;clear hin hflat hil hsrc
  go_enter Tryz.func104,Tryz.ntmps104
  go_wp2_with (at_builtin;refine Zmf rfl rfl ZU (v:= .slice A l.length c) (n:=l.length) (m:=1) (news:=x.cells) rfl rfl HO.out HS.out (by intro v hv;simp only[DEnd.cells,List.mem_cons,List.not_mem_nil,or_false]at hv;rcases hv with rfl|rfl|rfl<;>rfl) (by omega) (by omega) hbase ?_)
  intro v4 w4 hown4 hu4 hg4;obtain⟨A4,c4,rfl⟩:=Zaq hown4;go_wp2
  go_ret
  refine⟨A4,c4,by rw[HI.out];rfl,?_,hu4,?_⟩
  ·rw[HI.out,HF.out];exact hown4
  ·rw[HI.out];exact hg4
 ·have hi2:i<l.length:=by omega
  have hpos:0<l.length:=by omega
  obtain⟨g,cur,rfl,hgb,hB,hnc,hcl,hct,hcm⟩:=Za3 hown hpos;have hvg:vb≠g:=fun e=>hnv (by subst e;rfl)
  have hcs:((l.drop i).map DEnd.cells).flatten=(cur.take (l.length*3)).drop (i*3):=by rw[hct,Zl8 l i hi]
  have hcsl:((l.drop i).map DEnd.cells).flatten.length=(l.length-i)*3:=by rw[ZaD,List.length_drop]
  have htk:cur.take (i*3)=((l.take i).map DEnd.cells).flatten:=by rw[←Zl7 l i hi,←hct,List.take_take,Nat.min_eq_left (by omega)]
  have heq:((i:Int)==(l.length:Int))=false:=by rw[beq_eq_false_iff_ne];omega
  have b0:(0:Int)≤(i:Int):=Qn _;have b1:(i:Int)<(l.length:Int):=by omega
  have b2:(l.length:Int)≤100000:=by omega
  have b3:(l.length:Int)≤(c:Int):=by omega
  have hci:¬c=i:=by omega
  have k1:∀W,(Instr.slice 95 (.slice (some ⟨g,0,none⟩) l.length c) (some (.int .i64 (i:Int))) none none).run Tryz.prog W= .ok (.slice (some ⟨g,i*3,none⟩) (l.length-i) (c-i)) W:=fun W=>by
   have:=Zce W ZU (some ⟨g,0,none⟩) l.length c i (by omega)
   rwa [Zhj hci]at this
  have hsrcS:∀W:World,W.heap[g]? =w.heap[g]?→∀(j:Nat) v,((l.drop i).map DEnd.cells).flatten[j]? =some v→W.cell? ((⟨g,i*3,none⟩:Addr).add j)=some v:=fun W hW j v hj=>by
   have hBW:Blk W g 92 cur:=hW.trans hB;rw[ZcN,hBW.cell];rw[hcs,List.getElem?_drop,List.getElem?_take]at hj
   split at hj
   ·exact hj
   ·cases hj
  have hsrcV:∀W:World,W.heap[vb]? =w.heap[vb]?→∀(j:Nat) v,x.cells[j]? =some v→W.cell? ((⟨vb,0,none⟩:Addr).add j)=some v:=fun W hW j v hj=>by
   have hBW:Blk W vb 92 x.cells:=hW.trans hv;rw[ZcN,Nat.zero_add,hBW.cell];exact hj
  by_cases hroom:l.length+1≤c
  ·have hci2:¬c=i+1:=by omega
   have b4:¬(c:Int)<(l.length:Int)+1:=by omega
   have k2:∀W,(Instr.slice 95 (.slice (some ⟨g,0,none⟩) l.length c) none (some (.int .i64 ((l.length:Int)+1))) none).run Tryz.prog W= .ok (.slice (some ⟨g,0,none⟩) (l.length+1) c) W:=fun W=>by
    have:=ZeV W ZU (some ⟨g,0,none⟩) l.length c (l.length+1) hroom
    rwa [ZpA]at this
   have k3:∀W,(Instr.slice 95 (.slice (some ⟨g,0,none⟩) (l.length+1) c) (some (.int .i64 ((i:Int)+1))) none none).run Tryz.prog W= .ok (.slice (some ⟨g,(i+1)*3,none⟩) (l.length-i) (c-(i+1))) W:=fun W=>by
    have:=Zce W ZU (some ⟨g,0,none⟩) (l.length+1) c (i+1) (by omega)
    rwa [Zhj hci2,show l.length+1-(i+1)=l.length-i by omega]at this
   have k4:∀W,(Instr.slice 95 (.slice (some ⟨g,0,none⟩) (l.length+1) c) (some (.int .i64 (i:Int))) none none).run Tryz.prog W= .ok (.slice (some ⟨g,i*3,none⟩) (l.length+1-i) (c-i)) W:=fun W=>by
    have:=Zce W ZU (some ⟨g,0,none⟩) (l.length+1) c i (by omega)
    rwa [Zhj hci]at this
   have hov:=dov hv hB hvg (by intro e;rw[e]at hcl;simp at hcl;omega) ((i+1)*3) 1 1 (l.length-i) (c-(i+1));have HS:=Qh hsrcS;have HVs:=Qh hsrcV;have HB:=Qh hB;have HCL:=Qh hcsl;have HLc:=Qh (Zn5 (E:=x.cells) hi2 hroom hcl hcs rfl);have HTK:=Qh htk;have HI:=Qh hil;have HCl:=Qh hcl;have HOv:=Qh hov;have HVL:=Qh hv.lt;clear hsrcS hsrcV hcs hcsl htk hil hct hcl hown hv hnv hB
   go_enter Tryz.func104,Tryz.ntmps104
   have hov:=HOv.out;have b5:IntKind.i64.wrap ((i:Int)+1)=(i:Int)+1:=IntWalk.i64_in _ (by omega);have b6:(0:Int)≤(i:Int)+1:=by omega
   go_wp2;refine wp_region_noPanic ?_;refine wp_region_held_drew (S:=(fun w'=>Upd (One g) w w')) (by kernel_rfl) ?_ (fun hHeld=> ?_)
   ·(first|exact(Upd.refl _ _).drew|exact hU5)
   refine wpK 0 rfl ?_;refine wpK 1 rfl ?_;refine wpK 2 rfl ?_;refine wpK 3 rfl ?_;refine wpK 4 rfl ?_;refine wpK 5 rfl ?_;refine wpK 6 rfl ?_;refine wpK 7 rfl ?_;refine wpR [8] ?_;refine wpC rfl (fun K hK=> ?_) AllReadyH.nil
   (first
  |(refine ZgF rfl rfl ZU (g:=g) (off:=(i+1)*3) (n:=l.length-i) (cs:=((l.drop i).map DEnd.cells).flatten) rfl rfl (show Blk _ g 92 cur from HB.out) (by simp only[Nat.min_def];split<;>omega) HCL.out (HS.out _ rfl) (by rw[HCL.out,HCl.out];omega) ZiD ?_;intro w5 hB5 hu5;have hU5:Upd (One g) w w5:=hu5.of_drew))
   refine hK.out _ _ ?_ (fun hHeld=> ?_)
   ·(first|exact(Upd.refl _ _).drew|exact hU5)
   clear hK K
   try simp only[Act.put,sT,sS,sZ]
   refine wpD (NoPanic.normal ?_);have HU5:=Qh hU5;have HB5:=Qh hB5;clear hHeld hU5 hu5 hB5 hov b5
   go_wp2_with (refine Zi3 rfl rfl ZU (g:=g) (off:=i*3) (n:=1) (cs:=x.cells) rfl rfl HB5.out (by simp only[Nat.min_def];split<;>omega) rfl (HVs.out _ (HU5.out.block vb HVL.out hvg)) (by simp only[List.length_append,List.length_take,List.length_drop,HCL.out,HCl.out];rw[Nat.min_eq_left (by omega)];show i*3+3≤_;omega) (Zj3 x) ?_;intro w6 hB6 hu6)
   rw[HLc.out]at hB6;have hU6:=HU5.out.trans hu6
   go_ret
   have hown6:=Zam (size:=3) (n:=l.length+1) (xs:=((Zbv l i x).map DEnd.cells).flatten) hB6 hgb hroom (by
    simp only[List.length_append,List.length_take,List.length_drop,HCL.out,HCl.out];rw[Nat.min_eq_left (by omega)]
    show i*3+3+_+_=_
    omega) (by rw[HTK.out];exact ZjS (R1:=[]) l i x hi rfl) hcm (by rw[ZaD,HI.out])
   refine⟨some ⟨g,0,none⟩,c,by rw[HI.out];rfl,?_,hU6.mono (fun j _ e=>by cases e;rfl),.inl rfl⟩;rw[HI.out];exact hown6
  ·have b4:(c:Int)<(l.length:Int)+1:=by omega
   have hk:((l.length:Int)+1-(i:Int))=((l.length+1-i:Nat):Int):=by omega
   have k5:∀W,(Instr.slice 95 (.slice (some ⟨g,0,none⟩) l.length c) none (some (.int .i64 (i:Int))) none).run Tryz.prog W= .ok (.slice (some ⟨g,0,none⟩) i c) W:=fun W=>by
    have:=ZeV W ZU (some ⟨g,0,none⟩) l.length c i (by omega)
    rwa [ZpA]at this
   have hold:∀(j:Nat) v,((l.take i).map DEnd.cells).flatten[j]? =some v→w.cell? ⟨g,j,none⟩=some v:=fun j v hj=>by
    rw[hB.cell];rw[←htk,List.getElem?_take]at hj
    split at hj
    ·exact hj
    ·cases hj
   have htl:((l.take i).map DEnd.cells).flatten.length=i*3:=by rw[ZaD,List.length_take,Nat.min_eq_left (by omega)]
   have HS:=Qh hsrcS;have HVs:=Qh hsrcV;have HGL:=Qh hB.lt;have HCL:=Qh hcsl;have HI:=Qh hil;have HOld:=Qh hold;have HTL:=Qh htl;have HVL:=Qh hv.lt;have HK:=Qh (show i+(l.length+1-i)=l.length+1 by omega);clear hsrcS hsrcV hcs hcsl htk hil hct hcl hown hv hnv hB hold htl
   go_enter Tryz.func104,Tryz.ntmps104
   have k6:∀(c':Nat) W,l.length+1≤c'→(Instr.slice 95 (.slice (some ⟨w.heap.size,0,none⟩) (l.length+1) c') (some (.int .i64 (i:Int))) none none).run Tryz.prog W= .ok (.slice (some ⟨w.heap.size,i*3,none⟩) (l.length+1-i) (c'-i)) W:=fun c' W hc'=>by
    have:=Zce W ZU (some ⟨w.heap.size,0,none⟩) (l.length+1) c' i (by omega)
    rwa [Zhj (by omega)]at this
   have k7:∀(c':Nat) W,l.length+1≤c'→(Instr.slice 95 (.slice (some ⟨w.heap.size,0,none⟩) (l.length+1) c') (some (.int .i64 ((i:Int)+1))) none none).run Tryz.prog W= .ok (.slice (some ⟨w.heap.size,(i+1)*3,none⟩) (l.length-i) (c'-(i+1))) W:=fun c' W hc'=>by
    have:=Zce W ZU (some ⟨w.heap.size,0,none⟩) (l.length+1) c' (i+1) (by omega)
    rwa [Zhj (by omega),show l.length+1-(i+1)=l.length-i by omega]at this
   have b5:IntKind.i64.wrap ((i:Int)+1)=(i:Int)+1:=IntWalk.i64_in _ (by omega);have b6:(0:Int)≤(i:Int)+1:=by omega
   have hKe:i+(l.length+1-i)=l.length+1:=HK.out
   go_wp2_with (first
    |(at_builtin;refine ZnV rfl rfl ZU Tryz.underlying3 (g:=g) (n:=i) (c:=c) (k:=l.length+1-i) rfl rfl HTL.out HOld.out (by omega) (by omega) (by omega) (by omega) ?_;intro c5 zs w5 hc5 hm5 hB5 hl5 hu5;rw[HK.out]at hc5;have HB5:=Qh hB5;have HL5:=Qh hl5;clear hB5 hl5)
    |(refine Zi3 rfl rfl ZU (g:=w.heap.size) (off:=i*3) (n:=1) (cs:=x.cells) rfl rfl HB5.out (by simp only[Nat.min_def];split<;>omega) rfl (HVs.out _ (hu5.block vb HVL.out id)) (by rw[HL5.out];show i*3+3≤_;omega) (Zj3 x) ?_;intro w6 hB6 hu6;have HB6:=Qh hB6;clear hB6))
   have HS6:=HS.out w6 ((hu6.block g (Nat.lt_of_lt_of_le HGL.out hu5.size) (by intro e;have:=HGL.out;cases e;omega)).trans (hu5.block g HGL.out id));have HSS:=Qh HS6
   have hlen6:((((l.take i).map DEnd.cells).flatten++zs).take (i*3)++x.cells++(((l.take i).map DEnd.cells).flatten++zs).drop (i*3+x.cells.length)).length=c5*3:=by
    have h5:=HL5.out;simp only[List.length_append,List.length_take,List.length_drop]at h5 ⊢
    show _+3+(_-(i*3+3))=_
    omega
   have HL6:=Qh hlen6;clear HS6 hlen6;refine wp_region_noPanic ?_;refine wp_region_held_drew (S:=(fun w'=>Upd (One w.heap.size) w6 w')) (by kernel_rfl) ?_ (fun hHeld=> ?_)
   ·(first|exact(Upd.refl _ _).drew|exact hU7)
   refine wpK 0 rfl ?_;refine wpK 1 rfl ?_;refine wpK 2 rfl ?_;refine wpK 3 rfl ?_;refine wpK 4 rfl ?_;refine wpK 5 rfl ?_;refine wpK 6 rfl ?_;refine wpK 7 rfl ?_;refine wpR [8] ?_;refine wpC rfl (fun K hK=> ?_) AllReadyH.nil
   (first
  |(refine ZgF rfl rfl ZU (g:=w.heap.size) (off:=(i+1)*3) (n:=l.length-i) (cs:=((l.drop i).map DEnd.cells).flatten) rfl rfl (show Blk _ w.heap.size 92 _ from HB6.out) (by simp only[Nat.min_def];split<;>omega) HCL.out HSS.out (by rw[HL6.out,HCL.out];omega) ZiD ?_;intro w7 hB7 hu7;have hU7:Upd (One w.heap.size) w6 w7:=hu7.of_drew))
   refine hK.out _ _ ?_ (fun hHeld=> ?_)
   ·(first|exact(Upd.refl _ _).drew|exact hU7)
   clear hK K
   try simp only[Act.put,sT,sS,sZ]
   refine wpD (NoPanic.normal ?_);have HB7:=hB7
   have hz5:3≤zs.length:=by
    have h5:=HL5.out;rw[List.length_append,HTL.out]at h5;omega
   have hlen7:=HL6.out;rw[ZoY HTL.out rfl hz5]at HB7;have hU:=(hu5.mono (T:=One w.heap.size) (fun _ _ e=>e.elim)).trans (hu6.trans hU7);have H7:=Qh (And.intro HB7 hU);clear hB7 HB7 hu7 hU hHeld hU7 k6 k7 hu6 hu5;go_wp2
   go_ret
   have hown7:=Zam (size:=3) (n:=l.length+1) (xs:=((Zbv l i x).map DEnd.cells).flatten) H7.out.1 hbase hc5 (by
    have h5:=HL5.out;simp only[List.length_append,List.length_drop,HCL.out,HTL.out]at h5 ⊢
    show i*3+3+_+_=_
    omega) (ZjS (R1:=[]) l i x hi rfl) hm5 (by rw[ZaD,HI.out])
   refine⟨some ⟨w.heap.size,0,none⟩,c5,by rw[HI.out];rfl,?_,H7.out.2.trans_ (Upd.refl _ _) (fun _ _ e=>e) |>.mono (fun j hj e=>by cases e;omega),.inr ⟨_,rfl,Nat.le_refl _⟩⟩;rw[HI.out];exact hown7
end
/- Digraphs:an end taken out from among others. -/
section
open Go.RowKit
def ZiW (l:List DEnd) (i:Nat):List DEnd:=l.take i++l.drop (i+1)
end
/- Digraphs:ends put in and taken out. -/
section
open Go.RowKit
theorem Zfn {w:World} {base:Nat} {A:Option Addr} {c:Nat} {l:List DEnd} (h:w.ownsRow base 92 3 (.slice A l.length c) l.length (l.map DEnd.cells).flatten):DEnds (Own (.slice A l.length c)) w A l:=
 Recs.of_own (n:=l.length) (c:=c) ZiE (by omega) h
theorem Grew.older {w W:World} {v v':Value} (h:Grew W v v') (k:w.heap.size≤W.heap.size):Grew w v v':=by
 rcases h with h|⟨j,h1,h2⟩
 ·exact .inl h
 ·exact .inr ⟨j,h1,Nat.le_trans k h2⟩
set_option maxRecDepth 100000 in
theorem Zrx (w:World) (base:Nat) (A:Option Addr) (c:Nat) (l:List DEnd) (e:DEnd) (p:Nat) (hown:w.ownsRow base 92 3 (.slice A l.length c) l.length (l.map DEnd.cells).flatten) (hp:ZiY l e p) (hl:l.length≤100000) (hbase:base≤w.heap.size):
  Calls Tryz.prog 51 #[.slice A l.length c,.agg e.cells.toArray] w (ZrM w base (.slice A l.length c) (Zbv l p e)):=by
 have u0:=(Upd.refl No w).alloc (.cells e.cells.toArray 92);have bE:=Qh (Blk.new w 92 e.cells);have hf:=Qh (Zpy _ (w.alloc (.cells e.cells.toArray 92)) A c l e p ((Zfn hown).upd u0 (fun _ _=>id)) (by omega) hp);have hp1:=hp.1;have HO:=Qh hown;have U0:=Qh u0;obtain⟨ek,el,en⟩:=e;unfold DEnd.cells at*;clear hown hp u0
 go_enter Tryz.func51,Tryz.ntmps51
 go_wp2_with fail
 refine(hf.out).mono ?_;rintro e w1 ⟨rfl,hu1⟩;have b1:=bE.out.upd hu1 id;have c0:=b1.cell 0;have c1:=b1.cell 1;have c2:=b1.cell 2;simp only[Qz,Qs]at c0 c1 c2;have hU:=U0.out.trans hu1;have uV:=hU.alloc (.cells #[.int .i64 ek,.int .i64 el,.int .i64 en] 92);have hown2:=Zb HO.out uV (fun _ _=>id)
 have hnv:¬Own (.slice A l.length c) w1.heap.size:=fun e=>by
  have h1:=(HO.out.lt _ e).2;have h2:=hU.size;omega
 have hd:=Qh (Zti (w1.alloc (.cells #[.int .i64 ek,.int .i64 el,.int .i64 en] 92)) base A c l p ⟨ek,el,en⟩ w1.heap.size hown2 (Blk.new w1 92 [.int .i64 ek,.int .i64 el,.int .i64 en]) hnv hp1 hl (Nat.le_trans hbase uV.size));have UV:=Qh uV;clear b1 hu1 hU uV hown2 hnv
 go_wp2_with fail
 refine(hd.out).mono ?_;rintro e w2 ⟨A4,c4,rfl,ho4,hu4,hg4⟩;have H4:=Qh (And.intro ho4 (And.intro hu4 hg4));clear ho4 hu4 hg4;go_wp2
 go_ret
 exact⟨A4,c4,rfl,H4.out.1,(UV.out.mono (fun _ _ e=>e.elim)).trans H4.out.2.1,H4.out.2.2.older UV.out.size⟩
/-! rising ends -/
def ZaY (l:List DEnd):Prop:=l.Pairwise fun a b=>Zaf a b<0
theorem ZhS {a b:Int}:Zw a b<0↔a<b:=by unfold Zw;split<;>(try split)<;>omega
theorem cmpI_eq {a b:Int}:Zw a b=0↔a=b:=by unfold Zw;split<;>(try split)<;>omega
theorem ZhT (a b:DEnd):Zaf a b<0↔a.kind<b.kind∨(a.kind=b.kind∧(a.label<b.label∨(a.label=b.label∧a.node<b.node))):=by
 unfold Zaf;simp only[Zgi]
 by_cases h1:a.kind=b.kind
 ·rw[if_pos (cmpI_eq.2 h1)]
  by_cases h2:a.label=b.label
  ·rw[if_pos (cmpI_eq.2 h2)]
   by_cases h3:a.node=b.node
   ·rw[if_pos (cmpI_eq.2 h3)];simp[orI,h1,h2,h3]
   ·rw[if_neg (fun e=>h3 (cmpI_eq.1 e)),ZhS];simp[h1,h2]
  ·rw[if_neg (fun e=>h2 (cmpI_eq.1 e)),ZhS];simp[h1,h2]
 ·rw[if_neg (fun e=>h1 (cmpI_eq.1 e)),ZhS];simp[h1]
theorem ZfR (a b:DEnd):Zaf a b=0↔a=b:=by
 obtain⟨ak,al,an⟩:=a;obtain⟨bk,bl,bn⟩:=b;unfold Zaf;simp only[Zgi,DEnd.mk.injEq]
 by_cases h1:ak=bk
 ·rw[if_pos (cmpI_eq.2 h1)]
  by_cases h2:al=bl
  ·rw[if_pos (cmpI_eq.2 h2)]
   by_cases h3:an=bn
   ·rw[if_pos (cmpI_eq.2 h3)];simp[orI,h1,h2,h3]
   ·rw[if_neg (fun e=>h3 (cmpI_eq.1 e)),cmpI_eq];simp[h1,h2]
  ·rw[if_neg (fun e=>h2 (cmpI_eq.1 e)),cmpI_eq];simp[h2]
 ·rw[if_neg (fun e=>h1 (cmpI_eq.1 e)),cmpI_eq];simp[h1]
theorem Zhm {a b c:DEnd} (h:Zaf a b<0) (k:Zaf b c<0):Zaf a c<0:=by
 rw[ZhT]at*;omega
def ZK (l:List DEnd) (e:DEnd):Nat:=l.countP fun x=>decide (Zaf x e<0)
theorem ZbP {l:List DEnd} (h:ZaY l) (e:DEnd):ZiY l e (ZK l e):=by
 refine⟨List.countP_le_length,?_⟩
 induction l with
 |nil=>intro k hk;simp at hk
 |cons a l ih=>
  have h':=List.pairwise_cons.1 h;intro k hk;unfold ZK;rw[List.countP_cons]
  by_cases ha:Zaf a e<0
  ·rw[if_pos (by simpa using ha)]
   cases k with
   |zero=>simp only[List.getElem_cons_zero,ha,true_iff];omega
   |succ k=>
    rw[List.getElem_cons_succ,ih h'.2 k (by simpa using hk)];unfold ZK;omega
  ·rw[if_neg (by simpa using ha)]
   have h0:l.countP (fun x=>decide (Zaf x e<0))=0:=by
    rw[List.countP_eq_zero];intro x hx;simp only[decide_eq_true_eq];exact fun hxe=>ha (Zhm (h'.1 x hx) hxe)
   rw[h0]
   cases k with
   |zero=>simp only[List.getElem_cons_zero,ha,false_iff];omega
   |succ k=>
    rw[List.getElem_cons_succ]
    constructor
    ·intro hx;exact absurd (Zhm (h'.1 _ (List.getElem_mem _)) hx) ha
    ·intro hx;omega
theorem Zgo {l:List DEnd} (h:ZaY l) (e:DEnd):Zey l e (ZK l e)=decide (e∈l):=by
 have hp:=ZbP h e;rw[Bool.eq_iff_iff,decide_eq_true_eq];unfold Zey
 constructor
 ·intro hi
  split at hi
  ·rename_i x hx
   have:=(ZfR x e).1 (by simpa using hi);subst this;exact List.mem_of_getElem? hx
  ·cases hi
 ·intro hm;obtain⟨k,hk,rfl⟩:=List.mem_iff_getElem.1 hm
  have h1:¬k<ZK l l[k]:=fun hlt=>by
   have:=(hp.2 k hk).2 hlt;rw[(ZfR _ _).2 rfl]at this;omega
  have h2:¬ZK l l[k]<k:=fun hlt=>by
   have h3:=List.pairwise_iff_getElem.1 h (ZK l l[k]) k (by omega) hk hlt;have:=(hp.2 _ (by omega)).1 h3;omega
  have h3:ZK l l[k]=k:=by omega
  rw[h3,Qg hk];simp[(ZfR _ _).2 rfl]
end
/- Digraphs:how one lies in memory;what reads it. -/
section
open Go.RowKit
structure HArc where
 f:Int
 t:Int
 kind:Int
 label:Int
deriving DecidableEq
def HArc.cells (a:HArc):List Value:=[.int .i64 a.f,.int .i64 a.t,.int .i64 a.kind,.int .i64 a.label]
def RowsD (w:World) (base:Nat) (hs:List Value) (ls:List (List DEnd)):Prop:=
 hs.length=ls.length∧∀i (hi:i<ls.length),∃A c,hs[i]? =some (.slice A ls[i].length c)∧w.ownsRow base 92 3 (.slice A ls[i].length c) ls[i].length (ls[i].map DEnd.cells).flatten
def ApartD (hs:List Value):Prop:=∀(i j:Nat) (v u:Value) (k:Nat),hs[i]? =some v→hs[j]? =some u→i≠j→Own v k→¬Own u k
structure GIs (w:World) (G:Nat→Prop) (g:Nat) (out inn:List (List DEnd)) (n:Int) (ob ib:Nat) (oh ih:List Value) (base:Nat):Prop where
 blk:Blk w g 89 [.slice (some ⟨ob,0,none⟩) out.length out.length,.slice (some ⟨ib,0,none⟩) out.length out.length,.int .i64 n]
 ob_:Blk w ob 95 oh
 ib_:Blk w ib 95 ih
 len:inn.length=out.length
 ro:RowsD w base oh out
 ri:RowsD w base ih inn
 dis:ApartD (oh++ih)
 low:g<base∧ob<base∧ib<base
 ne:g≠ob∧g≠ib∧ob≠ib
 inG:G g∧G ob∧G ib∧∀v∈oh++ih,∀k,Own v k→G k
 old:∀k,G k→k<w.heap.size
 few:out.length≤4096∧(∀l∈out,l.length≤100000)∧(∀l∈inn,l.length≤100000)
theorem RowsD.upd {S:Nat→Prop} {w w':World} {base:Nat} {hs:List Value} {ls:List (List DEnd)} (h:RowsD w base hs ls) (k:Upd S w w') (hn:∀v∈hs,∀i,Own v i→¬S i):RowsD w' base hs ls:=
 ⟨h.1,fun i hi=>by
  obtain⟨A,c,h1,h2⟩:=h.2 i hi;exact⟨A,c,h1,Zb h2 k (fun j e=>hn _ (List.mem_of_getElem? h1) j e)⟩⟩
theorem GIs.upd {S:Nat→Prop} {w w':World} {G:Nat→Prop} {g:Nat} {out inn:List (List DEnd)} {n:Int} {ob ib:Nat} {oh ih:List Value} {base:Nat} (h:GIs w G g out inn n ob ib oh ih base) (k:Upd S w w') (hn:∀i,G i→¬S i):GIs w' G g out inn n ob ib oh ih base:=
 {h with
  blk:=h.blk.upd k (hn _ h.inG.1)
  ob_:=h.ob_.upd k (hn _ h.inG.2.1)
  ib_:=h.ib_.upd k (hn _ h.inG.2.2.1)
  ro:=h.ro.upd k fun v hv i e=>hn _ (h.inG.2.2.2 v (List.mem_append_left _ hv) i e)
  old:=fun i hi=>Nat.lt_of_lt_of_le (h.old i hi) k.size
  ri:=h.ri.upd k fun v hv i e=>hn _ (h.inG.2.2.2 v (List.mem_append_right _ hv) i e)}
section
variable {w:World} {G:Nat→Prop} {g:Nat} {out inn:List (List DEnd)} {n:Int} {ob ib:Nat} {oh ih:List Value} {base:Nat}
theorem ZnB (h:GIs w G g out inn n ob ib oh ih base):Calls Tryz.prog 105 #[.pointer (some ⟨g,0,none⟩)] w fun e w'=>e= .returned (.int .i64 (out.length:Int))∧w=w':=by
 have c0:=h.blk.cell 0;simp only[Qz]at c0
 go_enter Tryz.func105,Tryz.ntmps105
 go_wp2
 go_ret
 exact⟨rfl,rfl⟩
def Zat (N:Nat) (i:Int):Bool:=decide (0≤i)&&decide (i<(N:Int))
theorem Zpx (h:GIs w G g out inn n ob ib oh ih base) (i:Int):Calls Tryz.prog 101 #[.pointer (some ⟨g,0,none⟩),.int .i64 i] w fun e w'=>e= .returned (.bool (Zat out.length i))∧w=w':=by
 have HN:=Qh (ZnB h)
 by_cases h0:0≤i
 ·have HV:=Qh (show Zat out.length i=decide (i<(out.length:Int)) by unfold Zat;rw[decide_eq_true h0];rfl)
  go_enter Tryz.func101,Tryz.ntmps101
  go_wp2_with fail
  refine(HN.out).mono ?_;rintro e w1 ⟨rfl,rfl⟩;go_wp2
  go_ret
  exact⟨by rw[HV.out];rfl,rfl⟩
 ·have HV:=Qh (show Zat out.length i=false by unfold Zat;rw[decide_eq_false h0];rfl);have hb:decide (0≤i)=false:=decide_eq_false h0;clear h0
  go_enter Tryz.func101,Tryz.ntmps101
  go_wp2
  go_ret
  exact⟨by rw[HV.out];rfl,rfl⟩
def Zx (N:Nat) (a:HArc):Bool:=Zat N a.f&&(Zat N a.t&&(decide (1≤a.kind)&&(decide (a.kind≤3)&&(decide (0≤a.label)&&decide (a.label≤1048575)))))
set_option maxRecDepth 100000 in
theorem ZnA (h:GIs w G g out inn n ob ib oh ih base) (a:HArc):Calls Tryz.prog 48 #[.pointer (some ⟨g,0,none⟩),.agg a.cells.toArray] w fun e w'=>e= .returned (.bool (Zx out.length a))∧Upd No w w':=by
 obtain⟨af,at',ak,al⟩:=a;unfold HArc.cells;have u0:=(Upd.refl No w).alloc (.cells #[.int .i64 af,.int .i64 at',.int .i64 ak,.int .i64 al] 34);have hn:=fun i=>Zpx (h.upd u0 (fun _ _=>id)) i
 obtain⟨b1,hb1⟩:∃b,Zat out.length af=b:=⟨_,rfl⟩;obtain⟨b2,hb2⟩:∃b,Zat out.length at'=b:=⟨_,rfl⟩;have hn1:=hn af;have hn2:=hn at';rw[hb1]at hn1;rw[hb2]at hn2;have HN1:=Qh hn1;have HN2:=Qh hn2;have hv:Zx out.length ⟨af,at',ak,al⟩=(b1&&(b2&&(decide (1≤ak)&&(decide (ak≤3)&&(decide (0≤al)&&decide (al≤1048575)))))):=by unfold Zx;rw[hb1,hb2]
 have HV:=Qh hv;clear hn hn1 hn2 hb1 hb2 hv
 cases b1
 ·go_enter Tryz.func48,Tryz.ntmps48
  go_wp2_with fail
  refine(HN1.out).mono ?_;rintro e w1 ⟨rfl,rfl⟩;go_wp2
  go_ret
  exact⟨by rw[HV.out];rfl,u0⟩
 ·cases b2
  ·go_enter Tryz.func48,Tryz.ntmps48
   go_wp2_with fail
   refine(HN1.out).mono ?_;rintro e w1 ⟨rfl,rfl⟩
   go_wp2_with fail
   refine(HN2.out).mono ?_;rintro e w1 ⟨rfl,rfl⟩;go_wp2
   go_ret
   exact⟨by rw[HV.out];rfl,u0⟩
  ·by_cases k1:1≤ak
   ·by_cases k2:ak≤3
    ·by_cases k3:0≤al
     ·have HW:=Qh (show Zx out.length ⟨af,at',ak,al⟩=decide (al≤1048575) by rw[HV.out,decide_eq_true k1,decide_eq_true k2,decide_eq_true k3];rfl)
      go_enter Tryz.func48,Tryz.ntmps48
      go_wp2_with fail
      refine(HN1.out).mono ?_;rintro e w1 ⟨rfl,rfl⟩
      go_wp2_with fail
      refine(HN2.out).mono ?_;rintro e w1 ⟨rfl,rfl⟩;go_wp2
      go_ret
      exact⟨by rw[HW.out];rfl,u0⟩
     ·have HW:=Qh (show Zx out.length ⟨af,at',ak,al⟩=false by rw[HV.out,decide_eq_false k3];simp);have kb:decide (0≤al)=false:=decide_eq_false k3;clear k3
      go_enter Tryz.func48,Tryz.ntmps48
      go_wp2_with fail
      refine(HN1.out).mono ?_;rintro e w1 ⟨rfl,rfl⟩
      go_wp2_with fail
      refine(HN2.out).mono ?_;rintro e w1 ⟨rfl,rfl⟩;go_wp2
      go_ret
      exact⟨by rw[HW.out];rfl,u0⟩
    ·have HW:=Qh (show Zx out.length ⟨af,at',ak,al⟩=false by rw[HV.out,decide_eq_false k2];simp);have kb:decide (ak≤3)=false:=decide_eq_false k2;clear k2
     go_enter Tryz.func48,Tryz.ntmps48
     go_wp2_with fail
     refine(HN1.out).mono ?_;rintro e w1 ⟨rfl,rfl⟩
     go_wp2_with fail
     refine(HN2.out).mono ?_;rintro e w1 ⟨rfl,rfl⟩;go_wp2
     go_ret
     exact⟨by rw[HW.out];rfl,u0⟩
   ·have HW:=Qh (show Zx out.length ⟨af,at',ak,al⟩=false by rw[HV.out,decide_eq_false k1];simp);have kb:decide (1≤ak)=false:=decide_eq_false k1;clear k1
    go_enter Tryz.func48,Tryz.ntmps48
    go_wp2_with fail
    refine(HN1.out).mono ?_;rintro e w1 ⟨rfl,rfl⟩
    go_wp2_with fail
    refine(HN2.out).mono ?_;rintro e w1 ⟨rfl,rfl⟩;go_wp2
    go_ret
    exact⟨by rw[HW.out];rfl,u0⟩
end
def ZaK (a:HArc):DEnd:=⟨a.kind,a.label,a.t⟩
def inE (a:HArc):DEnd:=⟨a.kind,a.label,a.f⟩
theorem Upd.blk {S:Nat→Prop} {w w':World} {g:Nat} {t:TypeId} {cs:List Value} (k:Upd S w w') (h:Blk w g t cs) (hn:¬S g):Blk w' g t cs:=h.upd k hn
def Zc1 (a b:Nat):Nat→Prop:=fun i=>i=a∨i=b
set_option maxRecDepth 100000 in
set_option maxHeartbeats 1000000 in
theorem Zpz (w:World) (a:HArc):Calls Tryz.prog 50 #[.agg a.cells.toArray] w fun e w'=>e= .returned (.tuple #[.agg (ZaK a).cells.toArray,.agg (inE a).cells.toArray])∧Upd No w w':=by
 obtain⟨af,at',ak,al⟩:=a;unfold HArc.cells;obtain⟨wb,hwb⟩:∃wb,((w.alloc (.cells #[.int .i64 af,.int .i64 at',.int .i64 ak,.int .i64 al] 34)).alloc (.cells #[.int .i64 0,.int .i64 0,.int .i64 0] 92)).alloc (.cells #[.int .i64 0,.int .i64 0,.int .i64 0] 92)=wb:=⟨_,rfl⟩;have u0:Upd No w wb:=by rw[←hwb];exact(((Upd.refl No w).alloc _).alloc _).alloc _
 have bA:Blk wb w.heap.size 34 [.int .i64 af,.int .i64 at',.int .i64 ak,.int .i64 al]:=by rw[←hwb];exact((Blk.new w 34 [.int .i64 af,.int .i64 at',.int .i64 ak,.int .i64 al]).alloc _).alloc _
 have h1:Blk wb (w.heap.size+1) 92 [.int .i64 0,.int .i64 0,.int .i64 0]:=by
  rw[←hwb];have:=(Blk.new (w.alloc (.cells #[.int .i64 af,.int .i64 at',.int .i64 ak,.int .i64 al] 34)) 92 [.int .i64 0,.int .i64 0,.int .i64 0]).alloc (.cells #[.int .i64 0,.int .i64 0,.int .i64 0] 92)
  simpa using this
 have h2:Blk wb (w.heap.size+1+1) 92 [.int .i64 0,.int .i64 0,.int .i64 0]:=by
  rw[←hwb];have:=Blk.new ((w.alloc (.cells #[.int .i64 af,.int .i64 at',.int .i64 ak,.int .i64 al] 34)).alloc (.cells #[.int .i64 0,.int .i64 0,.int .i64 0] 92)) 92 [.int .i64 0,.int .i64 0,.int .i64 0]
  simpa using this
 have hn:¬Zc1 (w.heap.size+1) (w.heap.size+1+1) w.heap.size:=by unfold Zc1;omega
 have a0:∀W,Upd (Zc1 (w.heap.size+1) (w.heap.size+1+1)) wb W→W.cell? ⟨w.heap.size,0,none⟩=some (.int .i64 af):=fun W hW=>(bA.upd hW hn).cell 0
 have a1:∀W,Upd (Zc1 (w.heap.size+1) (w.heap.size+1+1)) wb W→W.cell? ⟨w.heap.size,1,none⟩=some (.int .i64 at'):=fun W hW=>(bA.upd hW hn).cell 1
 have a2:∀W,Upd (Zc1 (w.heap.size+1) (w.heap.size+1+1)) wb W→W.cell? ⟨w.heap.size,2,none⟩=some (.int .i64 ak):=fun W hW=>(bA.upd hW hn).cell 2
 have a3:∀W,Upd (Zc1 (w.heap.size+1) (w.heap.size+1+1)) wb W→W.cell? ⟨w.heap.size,3,none⟩=some (.int .i64 al):=fun W hW=>(bA.upd hW hn).cell 3
 have HWB:=Qh hwb;have U0:=Qh u0;clear hwb u0 bA hn;have H1:=Qh h1;have H2:=Qh h2;clear h1 h2
 go_enter Tryz.func50,Tryz.ntmps50
 go_wp2;rw[HWB.out];refine wp_region_noPanic ?_;refine wp_region_held_drew (S:=(fun w'=>Upd (Zc1 (w.heap.size+1) (w.heap.size+1+1)) wb w')) (by kernel_rfl) ?_ (fun hHeld=> ?_)
 ·(first|exact(Upd.refl _ _).drew|exact hHeld.trans hq)
 refine wpK 0 rfl ?_;refine wpK 1 rfl ?_;refine wpK 2 rfl ?_;refine wpK 3 rfl ?_;refine wpK 4 rfl ?_;refine wpK 5 rfl ?_;refine wpK 6 rfl ?_;refine wpK 7 rfl ?_;refine wpK 8 rfl ?_;refine wpK 9 rfl ?_;refine wpK 10 rfl ?_;refine wpK 11 rfl ?_;refine wpK 12 rfl ?_;refine wpK 13 rfl ?_;refine wpR [14] ?_;refine wpC rfl (fun K hK=> ?_) AllReadyH.nil
 (first
  |(refine ZcB rfl rfl (g:=w.heap.size+1) (cells:=[.int .i64 ak,.int .i64 al,.int .i64 at']) rfl rfl (show Blk _ _ 92 [.int .i64 0,.int .i64 0,.int .i64 0] from H1.out) (by kernel_rfl) rfl rfl ?_;intro w5 hb5 hu5;have H1:=Qh hb5;have H2:=Qh (hu5.blk (g:=w.heap.size+1+1) (t:=92) (cs:=[.int .i64 0,.int .i64 0,.int .i64 0]) (by exact H2.out) (by unfold One;omega));have hq:=hu5.mono (T:=Zc1 (w.heap.size+1) (w.heap.size+1+1)) (fun _ _ e=>Or.inl e);clear hb5 hu5)
  |(refine ZcB rfl rfl (g:=w.heap.size+1+1) (cells:=[.int .i64 ak,.int .i64 al,.int .i64 af]) rfl rfl (show Blk _ _ 92 [.int .i64 0,.int .i64 0,.int .i64 0] from H2.out) (by kernel_rfl) rfl rfl ?_;intro w5 hb5 hu5;have H2:=Qh hb5;have H1:=Qh (hu5.blk (g:=w.heap.size+1) (t:=92) (cs:=[.int .i64 ak,.int .i64 al,.int .i64 at']) (by exact H1.out) (by unfold One;omega));have hq:=hu5.mono (T:=Zc1 (w.heap.size+1) (w.heap.size+1+1)) (fun _ _ e=>Or.inr e);clear hb5 hu5))
 refine hK.out _ _ ?_ (fun hHeld=> ?_)
 ·(first|exact(Upd.refl _ _).drew|exact hHeld.trans hq)
 clear hK K
 try simp only[Act.put,sT,sS,sZ]
 refine wpR [15] ?_;refine wpC rfl (fun K hK=> ?_) AllReadyH.nil
 (first
  |(refine ZcB rfl rfl (g:=w.heap.size+1) (cells:=[.int .i64 ak,.int .i64 al,.int .i64 at']) rfl rfl (show Blk _ _ 92 [.int .i64 0,.int .i64 0,.int .i64 0] from H1.out) (by kernel_rfl) rfl rfl ?_;intro w5 hb5 hu5;have H1:=Qh hb5;have H2:=Qh (hu5.blk (g:=w.heap.size+1+1) (t:=92) (cs:=[.int .i64 0,.int .i64 0,.int .i64 0]) (by exact H2.out) (by unfold One;omega));have hq:=hu5.mono (T:=Zc1 (w.heap.size+1) (w.heap.size+1+1)) (fun _ _ e=>Or.inl e);clear hb5 hu5)
  |(refine ZcB rfl rfl (g:=w.heap.size+1+1) (cells:=[.int .i64 ak,.int .i64 al,.int .i64 af]) rfl rfl (show Blk _ _ 92 [.int .i64 0,.int .i64 0,.int .i64 0] from H2.out) (by kernel_rfl) rfl rfl ?_;intro w5 hb5 hu5;have H2:=Qh hb5;have H1:=Qh (hu5.blk (g:=w.heap.size+1) (t:=92) (cs:=[.int .i64 ak,.int .i64 al,.int .i64 at']) (by exact H1.out) (by unfold One;omega));have hq:=hu5.mono (T:=Zc1 (w.heap.size+1) (w.heap.size+1+1)) (fun _ _ e=>Or.inr e);clear hb5 hu5))
 refine hK.out _ _ ?_ (fun hHeld=> ?_)
 ·(first|exact(Upd.refl _ _).drew|exact hHeld.trans hq)
 clear hK K
 try simp only[Act.put,sT,sS,sZ]
 refine wpD (NoPanic.normal ?_)
 all_goals
  have r0:=H1.out.cell 0;have r1:=H1.out.cell 1;have r2:=H1.out.cell 2;have s0:=H2.out.cell 0;have s1:=H2.out.cell 1;have s2:=H2.out.cell 2;simp only[Qz,Qs]at r0 r1 r2 s0 s1 s2;have HU:=Qh (U0.out.then_ hHeld (fun i e=>by unfold Zc1 at e;exact .inr (by omega)));clear hHeld a0 a1 a2 a3;go_wp2;refine bodyPost_ret (v:= .tuple #[.agg #[.int .i64 ak,.int .i64 al,.int .i64 at'],.agg #[.int .i64 ak,.int .i64 al,.int .i64 af]]) (by simp[results,Tryz.results50,go_sem,r0,r1,r2,s0,s1,s2]) rfl ?_;exact⟨rfl,HU.out⟩
end
/- Digraphs:whether an arc is there. -/
section
open Go.RowKit
theorem ZbY {N:Nat} {a:HArc} (h:Zx N a=true):∃i j:Nat,a.f=(i:Int)∧a.t=(j:Int)∧i<N∧j<N:=by
 simp only[Zx,Zat,Bool.and_eq_true,decide_eq_true_eq]at h;exact⟨a.f.toNat,a.t.toNat,by omega,by omega,by omega,by omega⟩
theorem ZkC (w0 w2:World) (h:Upd No w0 w2) (t:TypeId) (c1 c2:List Value) (wb:World) (e:(w2.alloc (.cells c1.toArray t)).alloc (.cells c2.toArray t)=wb):Blk wb w2.heap.size t c1∧Blk wb (w2.heap.size+1) t c2∧Upd No w0 wb∧Upd No w2 wb:=by
 subst e;refine⟨(Blk.new w2 t c1).alloc _,?_,(h.alloc _).alloc _,((Upd.refl No w2).alloc _).alloc _⟩;have:=Blk.new (w2.alloc (.cells c1.toArray t)) t c2
 simpa using this
def Zdz (out:List (List DEnd)) (a:HArc):Bool:=Zx out.length a&&(match out[a.f.toNat]? with|some l=>decide (ZaK a∈l)|none=>false)
section
variable {w:World} {G:Nat→Prop} {g:Nat} {out inn:List (List DEnd)} {n:Int} {ob ib:Nat} {oh ih:List Value} {base:Nat}
set_option maxRecDepth 100000 in
theorem Ztj (h:GIs w G g out inn n ob ib oh ih base) (hr:∀l∈out,ZaY l) (a:HArc):Calls Tryz.prog 49 #[.pointer (some ⟨g,0,none⟩),.agg a.cells.toArray] w fun e w'=>e= .returned (.bool (Zdz out a))∧Upd No w w':=by
 have u0:=(Upd.refl No w).alloc (.cells a.cells.toArray 34);have hn:=Qh (ZnA (h.upd u0 (fun _ _=>id)) a);have bA:=Qh (Blk.new w 34 a.cells);have HH:=Qh h;have U0:=Qh u0
 by_cases hR:Zx out.length a=true
 ·obtain⟨i,j,e1,e2,hi,hj⟩:=ZbY hR
  have hv:Zdz out a=decide (ZaK a∈out[i]):=by
   unfold Zdz;rw[hR,e1];simp[Qg hi]
  have HV:=Qh hv;have HE:=Qh (fun(W:World)=>Zpz W a);rw[hR]at hn;obtain⟨A,c,hoi,hown⟩:=h.ro.2 i hi;have HO:=Qh hown;have HRi:=Qh (hr _ (List.getElem_mem hi));have hfew:=h.few.2.1 _ (List.getElem_mem hi);obtain⟨af,at',ak,al⟩:=a;subst e1 e2;unfold HArc.cells at*;simp only[ZaK,inE,DEnd.cells]at HE;clear hR hv h u0 hr hown
  go_enter Tryz.func49,Tryz.ntmps49
  go_wp2_with fail
  refine(hn.out).mono ?_;rintro e w1 ⟨rfl,hu1⟩;have b1:=bA.out.upd hu1 id;have c0:=b1.cell 0;have c1:=b1.cell 1;have c2:=b1.cell 2;have c3:=b1.cell 3;simp only[Qz,Qs]at c0 c1 c2 c3;have U1:=Qh (U0.out.trans hu1);have B1:=Qh b1;clear b1 hu1 hn bA U0
  go_wp2_with fail
  refine((HE.out _)).mono ?_;rintro e w2 ⟨rfl,hu2⟩;have U2:=Qh (U1.out.trans hu2);have B2:=Qh (B1.out.upd hu2 id);clear B1 U1 hu2 c0 c1 c2 c3 HE;go_wp2;obtain⟨wb,hwb⟩:∃wb,(w2.alloc (.cells #[.int .i64 ak,.int .i64 al,.int .i64 (j:Int)] 92)).alloc (.cells #[.int .i64 ak,.int .i64 al,.int .i64 (i:Int)] 92)=wb:=⟨_,rfl⟩;obtain⟨n1,n2,n3,n4⟩:=ZkC w w2 U2.out 92 [.int .i64 ak,.int .i64 al,.int .i64 (j:Int)] [.int .i64 ak,.int .i64 al,.int .i64 (i:Int)] wb hwb;have b4:=B2.out.upd n4 id;have hg:=HH.out.upd n3 (fun _ _=>id);have hoiL:=List.getElem?_eq_some_iff.1 hoi;have g0:∀W,Upd No wb W→W.cell? ⟨g,0,none⟩=some (.slice (some ⟨ob,0,none⟩) out.length out.length):=fun W hW=>(hg.blk.upd hW id).cell 0
  have a0:∀W,Upd No wb W→W.cell? ⟨w.heap.size,0,none⟩=some (.int .i64 (i:Int)):=fun W hW=>(b4.upd hW id).cell 0
  have oi:∀W,Upd No wb W→W.cell? ⟨ob,i,none⟩=some (.slice A out[i].length c):=fun W hW=>by rw[(hg.ob_.upd hW id).cell i];exact hoi
  have e0:∀W,Upd No wb W→W.cell? ⟨w2.heap.size,0,none⟩=some (.int .i64 ak):=fun W hW=>(n1.upd hW id).cell 0
  have e1:∀W,Upd No wb W→W.cell? ⟨w2.heap.size,1,none⟩=some (.int .i64 al):=fun W hW=>(n1.upd hW id).cell 1
  have e2:∀W,Upd No wb W→W.cell? ⟨w2.heap.size,2,none⟩=some (.int .i64 (j:Int)):=fun W hW=>(n1.upd hW id).cell 2
  have HC:=Qh (fun(W:World) (hW:Upd No wb W)=>Zpy _ W A c out[i] ⟨ak,al,(j:Int)⟩ (ZK out[i] ⟨ak,al,(j:Int)⟩) ((Zfn (Zb HO.out n3 (fun _ _=>id))).upd hW (fun _ _=>id)) (by omega) (ZbP HRi.out _));have k1:(0:Int)≤(i:Int):=Qn _;have k2:(i:Int)<(out.length:Int):=by omega
  rw[Zgo HRi.out]at HC;unfold DEnd.cells at HC;obtain⟨bv,hbv⟩:∃b,decide ((⟨ak,al,(j:Int)⟩:DEnd)∈out[i])=b:=⟨_,rfl⟩;rw[hbv]at HC;have HV:=Qh (HV.out.trans hbv);have N3:=Qh n3;rw[hwb];clear hwb n1 n2 n3 n4 b4 hg B2 U2 HH hoi hoiL HO HRi hfew hbv;refine wp_region_noPanic ?_;refine wp_region_held_drew (S:=(fun w'=>Upd No wb w')) (by kernel_rfl) ?_ (fun hHeld=> ?_)
  ·(first|exact(Upd.refl No _).drew|exact hHeld.trans hu3)
  refine wpK 0 rfl ?_;refine wpK 1 rfl ?_;refine wpK 2 rfl ?_;refine wpK 3 rfl ?_;refine wpK 4 rfl ?_;refine wpK 5 rfl ?_;refine wpK 6 rfl ?_;refine wpK 7 rfl ?_;refine wpK 8 rfl ?_;refine wpR [9] ?_;refine wpC rfl (fun K hK=> ?_) AllReadyH.nil;go_simp
  (first
  |(go_at_call 102;refine(HC.out _ hHeld).mono ?_;rintro e w3 ⟨rfl,hu3⟩))
  try (go_wp2_with fail)
  refine hK.out _ _ ?_ (fun hHeld=> ?_)
  ·(first|exact(Upd.refl No _).drew|exact hHeld.trans hu3)
  clear hK K
  try simp only[Act.put,sT,sS,sZ]
  refine wpK 10 rfl ?_;refine wpK 11 rfl ?_;refine wpK 12 rfl ?_;refine wpK 13 rfl ?_;refine wpK 14 rfl ?_;refine wpD (NoPanic.normal ?_)
  all_goals
   have HU:=Qh (N3.out.trans hHeld);clear hHeld g0 a0 oi e0 e1 e2;go_wp2
   go_ret
   exact⟨by rw[HV.out];rfl,HU.out⟩
 ·have hR':Zx out.length a=false:=by simpa using hR
  rw[hR']at hn;have HV:=Qh (show Zdz out a=false by unfold Zdz;rw[hR'];rfl);obtain⟨af,at',ak,al⟩:=a;unfold HArc.cells at*;clear hR hR' h u0 bA
  go_enter Tryz.func49,Tryz.ntmps49
  go_wp2_with fail
  refine(hn.out).mono ?_;rintro e w1 ⟨rfl,hu1⟩;have hu:=Qh (U0.out.trans hu1);clear hu1 hn;go_wp2
  go_ret
  exact⟨by rw[HV.out];rfl,hu.out⟩
end
end
/- Digraphs:a row of ends put in another's place. -/
section
open Go.RowKit
theorem ZfW {P:Program} {ops:Array Oper} {o:Oper} {a:Act} {W:World} {K:Act→World→Prop} {Q:Exit→Act→World→Prop} {E:Prop} (hgd:o.guard=none) {ty:TypeId} {x y:Operand} (ho:o.op= .store ty x y)
  {g i:Nat} {t:TypeId} {old:List Value} {A:Option Addr} {n c:Nat} (hx:a.eval x= .pointer (some ⟨g,i,none⟩)) (hy:a.eval y= .slice A n c) (hb:Blk W g t old) (hi:(P.info? ty).map (·.size)=some 1) (hlt:i<old.length)
  (h:∀w',Blk w' g t (old.set i (.slice A n c))→Upd (One g) W w'→K (a.put o.dst undef) w'):if Region.wanted o (yielded ops a.tmps)=true then Oper.wp P o a W K Q else E:=by
 rw[if_pos (by simp[Region.wanted,hgd])];have hst:=run_storeCells_at P g i t [.slice A n c] 0 old.toArray W hb (by simp;omega) (by simp[Value.oneCell'])
 have he:old.take i++[.slice A n c]++old.drop (i+1)=old.set i (.slice A n c):=by
  rw[List.set_eq_take_append_cons_drop,if_pos hlt];simp
 simp only[Nat.add_zero,List.length_cons,List.length_nil,Nat.zero_add,he]at hst
 cases hq:P.info? ty with
 |none=>simp[hq]at hi
 |some z=>
  have hs:z.size=1:=by simpa[hq]using hi
  have hrun:(storeVar ty ⟨g,i,none⟩ (.slice A n c)).run P W= .ok () (W.setRow g (old.set i (.slice A n c)).toArray):=by
   simp[storeVar,sizeOf,typeInfo,hq,Value.cells,hs,hst]
  unfold Oper.wp execOp;simp only[ho,hx,hy,Instr.storeAt,Instr.sureAddr,Sem.run_bind,Sem.run_pure,Result.andThen_ok,hrun];exact h _ (ZeH hb) (Zej _ _)
theorem RowsD.set {w w':World} {base:Nat} {hs:List Value} {ls:List (List DEnd)} (h:RowsD w base hs ls) (hA:ApartD hs) {i:Nat} (hi:i<ls.length) {v:Value} (hv:hs[i]? =some v) {S:Nat→Prop} (hu:Upd S w w')
  (hS:∀(j:Nat) u k,hs[j]? =some u→j≠i→Own u k→¬S k) {l:List DEnd} {A:Option Addr} {c:Nat} (hn:w'.ownsRow base 92 3 (.slice A l.length c) l.length (l.map DEnd.cells).flatten):
  RowsD w' base (hs.set i (.slice A l.length c)) (ls.set i l):=by
 refine⟨by simpa using h.1,fun j hj=> ?_⟩;have hj':j<ls.length:=by simpa using hj
 by_cases e:j=i
 ·subst e;refine⟨A,c,?_,?_⟩
  ·rw[List.getElem?_set_self (by rw[h.1];exact hi)];simp
  ·simpa using hn
 ·obtain⟨B,d,h1,h2⟩:=h.2 j hj';have hl:(ls.set i l)[j]=ls[j]:=by rw[List.getElem_set_ne (fun x=>e x.symm)]
  rw[hl];refine⟨B,d,?_,Zb h2 hu (fun k hk=>hS j _ k h1 e hk)⟩;rw[List.getElem?_set_ne (fun x=>e x.symm)];exact h1
theorem ApartD.set {hs:List Value} (h:ApartD hs) {N i:Nat} {v u:Value} (hv:hs[i]? =some v) (hlt:∀x∈hs,∀k,Own x k→k<N) (hu:∀k,Own u k→Own v k∨N≤k):ApartD (hs.set i u):=by
 intro a b x y k ha hb hab hx hy;have hil:=(List.getElem?_eq_some_iff.1 hv).1;have mem:∀{j:Nat} {z:Value},hs[j]? =some z→z∈hs:=fun e=>List.mem_of_getElem? e
 by_cases e1:a=i
 ·subst e1;rw[List.getElem?_set_self hil]at ha;rw[List.getElem?_set_ne hab]at hb
  cases ha
  rcases hu k hx with h1|h1
  ·exact h _ _ _ _ _ hv hb hab h1 hy
  ·have:=hlt _ (mem hb) _ hy;omega
 ·rw[List.getElem?_set_ne (fun x=>e1 x.symm)]at ha
  by_cases e2:b=i
  ·subst e2;rw[List.getElem?_set_self hil]at hb
   cases hb
   rcases hu k hy with h1|h1
   ·exact h _ _ _ _ _ ha hv hab hx h1
   ·have:=hlt _ (mem ha) _ hx;omega
  ·rw[List.getElem?_set_ne (fun x=>e2 x.symm)]at hb;exact h _ _ _ _ _ ha hb hab hx hy
def GG (w w':World) (G:Nat→Prop):Nat→Prop:=fun k=>G k∨(w.heap.size≤k∧k<w'.heap.size)
theorem Grew.own {w:World} {v u:Value} (h:Grew w v u):∀k,Own u k→Own v k∨w.heap.size≤k:=by
 intro k hk;unfold Own at*;rcases h with h|⟨j,h1,h2⟩
 ·left;rw[←h];exact hk
 ·right;rw[h1]at hk;cases hk;exact h2
section
variable {w w':World} {G:Nat→Prop} {g:Nat} {out inn:List (List DEnd)} {n:Int} {ob ib:Nat} {oh ih:List Value} {base:Nat}
theorem GIs.rowO (h:GIs w G g out inn n ob ib oh ih base) {i:Nat} {l':List DEnd} {v:Value} {A4:Option Addr} {c4:Nat} (hi:i<out.length) (hv:oh[i]? =some v)
  (hu:Upd (fun k=>Own v k∨k=ob) w w') (hB:Blk w' ob 95 (oh.set i (.slice A4 l'.length c4))) (ho:w'.ownsRow base 92 3 (.slice A4 l'.length c4) l'.length (l'.map DEnd.cells).flatten)
  (hg:Grew w v (.slice A4 l'.length c4)) (hf:l'.length≤100000):GIs w' (GG w w' G) g (out.set i l') inn n ob ib (oh.set i (.slice A4 l'.length c4)) ih base:=by
 have hlow:∀x∈oh++ih,∀k,Own x k→base≤k:=by
  intro x hx k hk;rcases List.mem_append.1 hx with hx|hx
  ·obtain⟨j,hj,rfl⟩:=List.getElem_of_mem hx;obtain⟨B,d,h1,h2⟩:=h.ro.2 j (by rw[←h.ro.1];exact hj);rw[Qg hj]at h1;rw[Option.some.inj h1]at hk;exact(h2.lt _ hk).1
  ·obtain⟨j,hj,rfl⟩:=List.getElem_of_mem hx;obtain⟨B,d,h1,h2⟩:=h.ri.2 j (by rw[←h.ri.1];exact hj);rw[Qg hj]at h1;rw[Option.some.inj h1]at hk;exact(h2.lt _ hk).1
 have hl:=h.low;have hvg:Own v g→False:=fun e=>by have:=hlow v (List.mem_append_left _ (List.mem_of_getElem? hv)) g e;omega
 have hvi:Own v ib→False:=fun e=>by have:=hlow v (List.mem_append_left _ (List.mem_of_getElem? hv)) ib e;omega
 have hset:(oh.set i (.slice A4 l'.length c4))++ih=(oh++ih).set i (.slice A4 l'.length c4):=by
  rw[List.set_append_left];rw[h.ro.1];exact hi
 have hva:(oh++ih)[i]? =some v:=by rw[List.getElem?_append_left (by rw[h.ro.1];exact hi)];exact hv
 have hold:∀x∈oh++ih,∀k,Own x k→k<w.heap.size:=fun x hx k hk=>h.old k (h.inG.2.2.2 x hx k hk)
 constructor
 case blk=>simpa using h.blk.upd hu (fun e=>e.elim hvg h.ne.1)
 case ob_=>exact hB
 case ib_=>exact h.ib_.upd hu (fun e=>e.elim hvi (fun e=>h.ne.2.2 e.symm))
 case len=>simpa using h.len
 case ro=>
  refine h.ro.set (fun a b x y k ha hb=>h.dis a b x y k ?_ ?_) hi hv hu ?_ ho
  ·rw[List.getElem?_append_left (List.getElem?_eq_some_iff.1 ha).1];exact ha
  ·rw[List.getElem?_append_left (List.getElem?_eq_some_iff.1 hb).1];exact hb
  ·rintro j u k hj hne hk (e|e)
   ·exact h.dis j i u v k (by rw[List.getElem?_append_left (List.getElem?_eq_some_iff.1 hj).1];exact hj) hva hne hk e
   ·have:=hlow u (List.mem_append_left _ (List.mem_of_getElem? hj)) k hk;omega
 case ri=>
  refine h.ri.upd hu ?_;rintro u hx k hk (e|e)
  ·obtain⟨j,hj,rfl⟩:=List.getElem_of_mem hx;refine h.dis (oh.length+j) i _ v k (by rw[List.getElem?_append_right (by omega)];simp[hj]) hva (by rw[h.ro.1];omega) hk e
  ·have:=hlow u (List.mem_append_right _ hx) k hk;omega
 case dis=>rw[hset];exact h.dis.set hva hold hg.own
 case low=>exact h.low
 case ne=>exact h.ne
 case inG=>
  refine⟨.inl h.inG.1,.inl h.inG.2.1,.inl h.inG.2.2.1,?_⟩;rw[hset];intro x hx k hk;rcases List.mem_or_eq_of_mem_set hx with hx|rfl
  ·exact .inl (h.inG.2.2.2 x hx k hk)
  ·rcases hg.own k hk with e|e
   ·exact .inl (h.inG.2.2.2 v (List.mem_of_getElem? hva) k e)
   ·exact .inr ⟨e,(ho.lt _ hk).2⟩
 case old=>
  rintro k (hk|hk)
  ·exact Nat.lt_of_lt_of_le (h.old k hk) hu.size
  ·exact hk.2
 case few=>
  refine⟨by simpa using h.few.1,fun x hx=> ?_,h.few.2.2⟩;rcases List.mem_or_eq_of_mem_set hx with hx|rfl
  ·exact h.few.2.1 x hx
  ·exact hf
theorem GIs.rowI (h:GIs w G g out inn n ob ib oh ih base) {i:Nat} {l':List DEnd} {v:Value} {A4:Option Addr} {c4:Nat} (hi:i<inn.length) (hv:ih[i]? =some v)
  (hu:Upd (fun k=>Own v k∨k=ib) w w') (hB:Blk w' ib 95 (ih.set i (.slice A4 l'.length c4))) (ho:w'.ownsRow base 92 3 (.slice A4 l'.length c4) l'.length (l'.map DEnd.cells).flatten)
  (hg:Grew w v (.slice A4 l'.length c4)) (hf:l'.length≤100000):GIs w' (GG w w' G) g out (inn.set i l') n ob ib oh (ih.set i (.slice A4 l'.length c4)) base:=by
 have hlow:∀x∈oh++ih,∀k,Own x k→base≤k:=by
  intro x hx k hk;rcases List.mem_append.1 hx with hx|hx
  ·obtain⟨j,hj,rfl⟩:=List.getElem_of_mem hx;obtain⟨B,d,h1,h2⟩:=h.ro.2 j (by rw[←h.ro.1];exact hj);rw[Qg hj]at h1;rw[Option.some.inj h1]at hk;exact(h2.lt _ hk).1
  ·obtain⟨j,hj,rfl⟩:=List.getElem_of_mem hx;obtain⟨B,d,h1,h2⟩:=h.ri.2 j (by rw[←h.ri.1];exact hj);rw[Qg hj]at h1;rw[Option.some.inj h1]at hk;exact(h2.lt _ hk).1
 have hl:=h.low;have hvg:Own v g→False:=fun e=>by have:=hlow v (List.mem_append_right _ (List.mem_of_getElem? hv)) g e;omega
 have hvi:Own v ob→False:=fun e=>by have:=hlow v (List.mem_append_right _ (List.mem_of_getElem? hv)) ob e;omega
 have hset:oh++(ih.set i (.slice A4 l'.length c4))=(oh++ih).set (oh.length+i) (.slice A4 l'.length c4):=by
  rw[List.set_append_right _ _ (by omega)];simp
 have hva:(oh++ih)[oh.length+i]? =some v:=by rw[List.getElem?_append_right (by omega)];simpa using hv
 have hold:∀x∈oh++ih,∀k,Own x k→k<w.heap.size:=fun x hx k hk=>h.old k (h.inG.2.2.2 x hx k hk)
 constructor
 case blk=>simpa using h.blk.upd hu (fun e=>e.elim hvg h.ne.2.1)
 case ob_=>exact h.ob_.upd hu (fun e=>e.elim hvi h.ne.2.2)
 case ib_=>exact hB
 case len=>simpa using h.len
 case ri=>
  refine h.ri.set (fun a b x y k ha hb hab=>h.dis (oh.length+a) (oh.length+b) x y k ?_ ?_ (by omega)) hi hv hu ?_ ho
  ·rw[List.getElem?_append_right (by omega)];simpa using ha
  ·rw[List.getElem?_append_right (by omega)];simpa using hb
  ·rintro j u k hj hne hk (e|e)
   ·exact h.dis (oh.length+j) (oh.length+i) u v k (by rw[List.getElem?_append_right (by omega)];simpa using hj) hva (by omega) hk e
   ·have:=hlow u (List.mem_append_right _ (List.mem_of_getElem? hj)) k hk;omega
 case ro=>
  refine h.ro.upd hu ?_;rintro u hx k hk (e|e)
  ·obtain⟨j,hj,rfl⟩:=List.getElem_of_mem hx;refine h.dis j (oh.length+i) _ v k (by rw[List.getElem?_append_left hj];simp[hj]) hva (by omega) hk e
  ·have:=hlow u (List.mem_append_left _ hx) k hk;omega
 case dis=>rw[hset];exact h.dis.set hva hold hg.own
 case low=>exact h.low
 case ne=>exact h.ne
 case inG=>
  refine⟨.inl h.inG.1,.inl h.inG.2.1,.inl h.inG.2.2.1,?_⟩;rw[hset];intro x hx k hk;rcases List.mem_or_eq_of_mem_set hx with hx|rfl
  ·exact .inl (h.inG.2.2.2 x hx k hk)
  ·rcases hg.own k hk with e|e
   ·exact .inl (h.inG.2.2.2 v (List.mem_of_getElem? hva) k e)
   ·exact .inr ⟨e,(ho.lt _ hk).2⟩
 case old=>
  rintro k (hk|hk)
  ·exact Nat.lt_of_lt_of_le (h.old k hk) hu.size
  ·exact hk.2
 case few=>
  refine⟨h.few.1,h.few.2.1,fun x hx=> ?_⟩;rcases List.mem_or_eq_of_mem_set hx with hx|rfl
  ·exact h.few.2.2 x hx
  ·exact hf
end
end
end Go.Proofs.YtonblekdfinpkaaGreat
