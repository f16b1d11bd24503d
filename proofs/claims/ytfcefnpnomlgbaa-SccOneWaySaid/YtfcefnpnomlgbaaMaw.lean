/- Digraphs: an end put among others. -/
import Derived.Lib.Overlaps
import Derived.Laws.Externs
import Derived.Test.YtfcefnpnomlgbaaMam
import Derived.Test.YtfcefnpnomlgbaaMas
namespace Go.Proofs.Ytfcefnpnomlgbaa
set_option linter.unusedSimpArgs false
set_option linter.unusedVariables false
open Go.RowKit
theorem Zh:SlT Try.prog 66 72 3 24:=SlT.mk_ Try.underlying66 (z:= .agg #[.int .i64 0,.int .i64 0,.int .i64 0]) (by kernel_rfl) rfl (by omega)
theorem ZcW {l:List DEnd}:∀r∈l.map DEnd.cells,r.length=3:=fun r hr=>by
 obtain⟨e,_,rfl⟩:=List.mem_map.1 hr
 rfl
theorem ZcV {l:List DEnd}:∀v∈(l.map DEnd.cells).flatten,v.oneCell'=true:=fun v hv=>by
 obtain⟨r,hr,h⟩:=List.mem_flatten.1 hv
 obtain⟨e,_,rfl⟩:=List.mem_map.1 hr
 simp only[DEnd.cells,List.mem_cons,List.not_mem_nil,or_false]at h
 rcases h with rfl|rfl|rfl<;>rfl
theorem Zu (l:List DEnd):(l.map DEnd.cells).flatten.length=l.length*3:=by
 have:=Zb3 (rows:=l.map DEnd.cells) (size:=3) ZcW
 rwa [List.length_map]at this
theorem Zej (l:List DEnd) (i:Nat) (hi:i≤l.length):(l.map DEnd.cells).flatten.take (i*3)=((l.take i).map DEnd.cells).flatten:=by
 conv=>lhs;rw[←List.take_append_drop i l,List.map_append,List.flatten_append]
 rw[List.take_append_of_le_length (by rw[Zu,List.length_take,Nat.min_eq_left hi];omega),List.take_of_length_le (by rw[Zu,List.length_take,Nat.min_eq_left hi];omega)]
theorem Zek (l:List DEnd) (i:Nat) (hi:i≤l.length):(l.map DEnd.cells).flatten.drop (i*3)=((l.drop i).map DEnd.cells).flatten:=by
 conv=>lhs;rw[←List.take_append_drop i l,List.map_append,List.flatten_append]
 rw[List.drop_append,List.drop_of_length_le (by rw[Zu,List.length_take,Nat.min_eq_left hi];omega),Zu,List.length_take,Nat.min_eq_left hi,Nat.sub_self]
 rfl
theorem ZaA (g o j:Nat):(⟨g,o,none⟩:Addr).add j=⟨g,o+j,none⟩:=by unfold Addr.add;split<;>simp_all
theorem dov {W:World} {vb g:Nat} {c1 c2:List Value} {t1 t2:TypeId} (h1:Blk W vb t1 c1) (h2:Blk W g t2 c2) (hne:vb≠g) (hc:c2≠[]) (o la ca lb cb:Nat):
  (callFunc 73 #[.slice (some ⟨vb,0,none⟩) la ca,.slice (some ⟨g,o,none⟩) lb cb]).run Try.prog W= .ok (.value (.bool false)) W:=by
 rw[run_callFunc_extern Try.func73 (by kernel_rfl) (by kernel_rfl) (by kernel_rfl) (e:=Extern.SlicesOverlaps.overlaps #[66,66] #[4]) (by kernel_rfl)]
 unfold Blk at h1 h2
 rw[Lib.run_overlaps_apart W 66 4 72 Try.underlying66 3 Try.sizeOf72 ⟨vb,0,none⟩ ⟨g,o,none⟩ la ca lb cb hne t1 t2 c1.length c2.length
  (by simp[World.shape?,h1]) (by simp[World.shape?,h2]) (by intro e;exact hc (List.eq_nil_of_length_eq_zero e)) (frozen_of_row W vb 0 _ t1 h1) (frozen_of_row W vb _ _ t1 h1)]
 rfl
def Zgv (w:World) (base:Nat) (v:Value) (l:List DEnd) (e:Ending) (w':World):Prop:=
 ∃A' c',e= .returned (.slice A' l.length c')∧w'.ownsRow base 72 3 (.slice A' l.length c') l.length (l.map DEnd.cells).flatten∧Upd (Own v) w w'∧Grew w v (.slice A' l.length c')
def ZQ (l:List DEnd) (i:Nat) (x:DEnd):List DEnd:=l.take i++[x]++l.drop i
theorem Zah (l:List DEnd) (i:Nat) (x:DEnd) (hi:i≤l.length):(ZQ l i x).length=l.length+1:=by
 unfold ZQ;simp;omega
theorem Zds {R1 R2:List Value} (l:List DEnd) (i:Nat) (x:DEnd) (hi:i≤l.length) {cur:List Value} (h:cur=((l.take i).map DEnd.cells).flatten++x.cells++((l.drop i).map DEnd.cells).flatten++R2):
  cur.take ((l.length+1)*3)=((ZQ l i x).map DEnd.cells).flatten:=by
 subst h
 have e:((ZQ l i x).map DEnd.cells).flatten=((l.take i).map DEnd.cells).flatten++x.cells++((l.drop i).map DEnd.cells).flatten:=by unfold ZQ;simp
 rw[←e,List.take_append_of_le_length (by rw[Zu,Zah l i x hi];omega),List.take_of_length_le (by rw[Zu,Zah l i x hi];omega)]
theorem ZfJ (g c s:Nat):Zad (some ⟨g,0,none⟩) c 0 s=some ⟨g,0,none⟩:=by unfold Zad;split<;>simp[Addr.add]
theorem Zcn {g c i s:Nat} (h:¬c=i):Zad (some ⟨g,0,none⟩) c i s=some ⟨g,i*s,none⟩:=by unfold Zad;rw[if_neg h];simp[ZaA]
theorem Ze1 {cur cs E:List Value} {i n c:Nat} (hi:i<n) (hc:n+1≤c) (hl:cur.length=c*3) (hcs:cs=(cur.take (n*3)).drop (i*3)) (hE:E.length=3):
  (cur.take ((i+1)*3)++cs++cur.drop ((i+1)*3+cs.length)).take (i*3)++E++(cur.take ((i+1)*3)++cs++cur.drop ((i+1)*3+cs.length)).drop (i*3+E.length)=cur.take (i*3)++E++cs++cur.drop ((i+1)*3+cs.length):=by
 have h1:(cur.take ((i+1)*3)).length=(i+1)*3:=by rw[List.length_take,Nat.min_eq_left (by omega)]
 rw[List.append_assoc (cur.take ((i+1)*3)),List.take_append_of_le_length (by omega),List.take_take,Nat.min_eq_left (by omega),List.drop_append,List.drop_of_length_le (by omega),h1,show i*3+E.length-(i+1)*3=0 by omega]
 simp
theorem Zfp {A Z cs E:List Value} {i:Nat} (hA:A.length=i*3) (hE:E.length=3) (hZ:3≤Z.length):
  ((A++Z).take (i*3)++E++(A++Z).drop (i*3+E.length)).take ((i+1)*3)++cs++((A++Z).take (i*3)++E++(A++Z).drop (i*3+E.length)).drop ((i+1)*3+cs.length)=A++E++cs++((A++Z).drop (i*3+3)).drop cs.length:=by
 have h1:(A++Z).take (i*3)=A:=by rw[←hA];simp
 have h2:(A++E).length=(i+1)*3:=by rw[List.length_append];omega
 rw[h1,hE,List.take_append_of_le_length (by omega),List.take_of_length_le (by omega),List.drop_append,List.drop_of_length_le (by omega),h2,show(i+1)*3+cs.length-(i+1)*3=cs.length by omega]
 simp
theorem ZdA (x:DEnd):∀v∈x.cells,v.oneCell'=true:=by
 intro v hv
 simp only[DEnd.cells,List.mem_cons,List.not_mem_nil,or_false]at hv
 rcases hv with rfl|rfl|rfl<;>rfl
set_option maxRecDepth 100000 in
set_option maxHeartbeats 2000000 in
theorem Zg6 (w:World) (base:Nat) (A:Option Addr) (c:Nat) (l:List DEnd) (i:Nat) (x:DEnd) (vb:Nat) (hown:w.ownsRow base 72 3 (.slice A l.length c) l.length (l.map DEnd.cells).flatten)
  (hv:Blk w vb 72 x.cells) (hnv:¬Own (.slice A l.length c) vb) (hi:i≤l.length) (hl:l.length≤100000) (hbase:base≤w.heap.size):
  Calls Try.prog 53 #[.slice A l.length c,.int .i64 (i:Int),.slice (some ⟨vb,0,none⟩) 1 1] w (Zgv w base (.slice A l.length c) (ZQ l i x)):=by
 have hil:=Zah l i x hi
 have hcap:=ZfZ hown
 by_cases hin:i=l.length
 ·have hcut:=fun W=>Zaf W Zh A l.length c i (by omega)
  have heq:((i:Int)==(l.length:Int))=true:=by rw[beq_iff_eq];omega
  have b0:(0:Int)≤(i:Int):=Int.natCast_nonneg _
  have b1:(i:Int)≤(l.length:Int):=by omega
  have hflat:((ZQ l i x).map DEnd.cells).flatten=(l.map DEnd.cells).flatten++x.cells:=by
   unfold ZQ
   rw[hin,List.take_length,List.drop_length]
   simp
  have HF:=Lib.hid hflat
  have HI:=Lib.hid hil
  have hsrc:Src w (some ⟨vb,0,none⟩) 1 3 x.cells:=⟨rfl,fun _=>⟨⟨vb,0,none⟩,rfl,fun j v hj=>by rw[ZaA,Nat.zero_add,hv.cell];exact hj⟩⟩
  have HS:=Lib.hid hsrc
  have HO:=Lib.hid hown
  clear hin hflat hil hsrc
  go_enter Try.func53,Try.ntmps53
  go_wp2_with (at_builtin;refine Zen rfl rfl Zh (v:= .slice A l.length c) (n:=l.length) (m:=1) (news:=x.cells) rfl rfl HO.out HS.out (by intro v hv;simp only[DEnd.cells,List.mem_cons,List.not_mem_nil,or_false]at hv;rcases hv with rfl|rfl|rfl<;>rfl) (by omega) (by omega) hbase ?_)
  intro v4 w4 hown4 hu4 hg4
  obtain⟨A4,c4,rfl⟩:=ZV hown4
  go_wp2
  go_ret
  refine⟨A4,c4,by rw[HI.out];rfl,?_,hu4,?_⟩
  ·rw[HI.out,HF.out];exact hown4
  ·rw[HI.out];exact hg4
 ·have hi2:i<l.length:=by omega
  have hpos:0<l.length:=by omega
  obtain⟨g,cur,rfl,hgb,hB,hnc,hcl,hct,hcm⟩:=ZJ hown hpos
  have hvg:vb≠g:=fun e=>hnv (by subst e;rfl)
  have hcs:((l.drop i).map DEnd.cells).flatten=(cur.take (l.length*3)).drop (i*3):=by rw[hct,Zek l i hi]
  have hcsl:((l.drop i).map DEnd.cells).flatten.length=(l.length-i)*3:=by rw[Zu,List.length_drop]
  have htk:cur.take (i*3)=((l.take i).map DEnd.cells).flatten:=by rw[←Zej l i hi,←hct,List.take_take,Nat.min_eq_left (by omega)]
  have heq:((i:Int)==(l.length:Int))=false:=by rw[beq_eq_false_iff_ne];omega
  have b0:(0:Int)≤(i:Int):=Int.natCast_nonneg _
  have b1:(i:Int)<(l.length:Int):=by omega
  have b2:(l.length:Int)≤100000:=by omega
  have b3:(l.length:Int)≤(c:Int):=by omega
  have hci:¬c=i:=by omega
  have k1:∀W,(Instr.slice 66 (.slice (some ⟨g,0,none⟩) l.length c) (some (.int .i64 (i:Int))) none none).run Try.prog W= .ok (.slice (some ⟨g,i*3,none⟩) (l.length-i) (c-i)) W:=fun W=>by
   have:=Zaf W Zh (some ⟨g,0,none⟩) l.length c i (by omega)
   rwa [Zcn hci]at this
  have hsrcS:∀W:World,W.heap[g]? =w.heap[g]?→∀(j:Nat) v,((l.drop i).map DEnd.cells).flatten[j]? =some v→W.cell? ((⟨g,i*3,none⟩:Addr).add j)=some v:=fun W hW j v hj=>by
   have hBW:Blk W g 72 cur:=hW.trans hB
   rw[ZaA,hBW.cell]
   rw[hcs,List.getElem?_drop,List.getElem?_take]at hj
   split at hj
   ·exact hj
   ·cases hj
  have hsrcV:∀W:World,W.heap[vb]? =w.heap[vb]?→∀(j:Nat) v,x.cells[j]? =some v→W.cell? ((⟨vb,0,none⟩:Addr).add j)=some v:=fun W hW j v hj=>by
   have hBW:Blk W vb 72 x.cells:=hW.trans hv
   rw[ZaA,Nat.zero_add,hBW.cell]
   exact hj
  by_cases hroom:l.length+1≤c
  ·have hci2:¬c=i+1:=by omega
   have b4:¬(c:Int)<(l.length:Int)+1:=by omega
   have k2:∀W,(Instr.slice 66 (.slice (some ⟨g,0,none⟩) l.length c) none (some (.int .i64 ((l.length:Int)+1))) none).run Try.prog W= .ok (.slice (some ⟨g,0,none⟩) (l.length+1) c) W:=fun W=>by
    have:=Zbu W Zh (some ⟨g,0,none⟩) l.length c (l.length+1) hroom
    rwa [ZfJ]at this
   have k3:∀W,(Instr.slice 66 (.slice (some ⟨g,0,none⟩) (l.length+1) c) (some (.int .i64 ((i:Int)+1))) none none).run Try.prog W= .ok (.slice (some ⟨g,(i+1)*3,none⟩) (l.length-i) (c-(i+1))) W:=fun W=>by
    have:=Zaf W Zh (some ⟨g,0,none⟩) (l.length+1) c (i+1) (by omega)
    rwa [Zcn hci2,show l.length+1-(i+1)=l.length-i by omega]at this
   have k4:∀W,(Instr.slice 66 (.slice (some ⟨g,0,none⟩) (l.length+1) c) (some (.int .i64 (i:Int))) none none).run Try.prog W= .ok (.slice (some ⟨g,i*3,none⟩) (l.length+1-i) (c-i)) W:=fun W=>by
    have:=Zaf W Zh (some ⟨g,0,none⟩) (l.length+1) c i (by omega)
    rwa [Zcn hci]at this
   have hov:=dov hv hB hvg (by intro e;rw[e]at hcl;simp at hcl;omega) ((i+1)*3) 1 1 (l.length-i) (c-(i+1))
   have HS:=Lib.hid hsrcS
   have HVs:=Lib.hid hsrcV
   have HB:=Lib.hid hB
   have HCL:=Lib.hid hcsl
   have HLc:=Lib.hid (Ze1 (E:=x.cells) hi2 hroom hcl hcs rfl)
   have HTK:=Lib.hid htk
   have HI:=Lib.hid hil
   have HCl:=Lib.hid hcl
   have HOv:=Lib.hid hov
   have HVL:=Lib.hid hv.lt
   clear hsrcS hsrcV hcs hcsl htk hil hct hcl hown hv hnv hB
   go_enter Try.func53,Try.ntmps53
   have hov:=HOv.out
   have b5:IntKind.i64.wrap ((i:Int)+1)=(i:Int)+1:=IntWalk.i64_in _ (by omega)
   have b6:(0:Int)≤(i:Int)+1:=by omega
   go_wp2
   refine wp_region_noPanic ?_
   refine wp_region_held_drew (S:=(fun w'=>Upd (One g) w w')) (by kernel_rfl) ?_ (fun hHeld=> ?_)
   ·(first|exact(Upd.refl _ _).drew|exact hU5)
   refine wpK 0 rfl ?_
   refine wpK 1 rfl ?_
   refine wpK 2 rfl ?_
   refine wpK 3 rfl ?_
   refine wpK 4 rfl ?_
   refine wpK 5 rfl ?_
   refine wpK 6 rfl ?_
   refine wpK 7 rfl ?_
   refine wpR [8] ?_
   refine wpC rfl (fun K hK=> ?_) AllReadyH.nil
   (first
  |(refine Zcb rfl rfl Zh (g:=g) (off:=(i+1)*3) (n:=l.length-i) (cs:=((l.drop i).map DEnd.cells).flatten) rfl rfl (show Blk _ g 72 cur from HB.out) (by simp only[Nat.min_def];split<;>omega) HCL.out (HS.out _ rfl) (by rw[HCL.out,HCl.out];omega) ZcV ?_;intro w5 hB5 hu5;have hU5:Upd (One g) w w5:=hu5.of_drew))
   refine hK.out _ _ ?_ (fun hHeld=> ?_)
   ·(first|exact(Upd.refl _ _).drew|exact hU5)
   clear hK K
   try simp only[Act.put,sT,sS,sZ]
   refine wpD (NoPanic.normal ?_)
   have HU5:=Lib.hid hU5
   have HB5:=Lib.hid hB5
   clear hHeld hU5 hu5 hB5 hov b5
   go_wp2_with (refine Zc5 rfl rfl Zh (g:=g) (off:=i*3) (n:=1) (cs:=x.cells) rfl rfl HB5.out (by simp only[Nat.min_def];split<;>omega) rfl (HVs.out _ (HU5.out.block vb HVL.out hvg)) (by simp only[List.length_append,List.length_take,List.length_drop,HCL.out,HCl.out];rw[Nat.min_eq_left (by omega)];show i*3+3≤_;omega) (ZdA x) ?_;intro w6 hB6 hu6)
   rw[HLc.out]at hB6
   have hU6:=HU5.out.trans hu6
   go_ret
   have hown6:=Zo (size:=3) (n:=l.length+1) (xs:=((ZQ l i x).map DEnd.cells).flatten) hB6 hgb hroom (by
    simp only[List.length_append,List.length_take,List.length_drop,HCL.out,HCl.out]
    rw[Nat.min_eq_left (by omega)]
    show i*3+3+_+_=_
    omega) (by rw[HTK.out];exact Zds (R1:=[]) l i x hi rfl) hcm (by rw[Zu,HI.out])
   refine⟨some ⟨g,0,none⟩,c,by rw[HI.out];rfl,?_,hU6.mono (fun j _ e=>by cases e;rfl),.inl rfl⟩
   rw[HI.out]
   exact hown6
  ·have b4:(c:Int)<(l.length:Int)+1:=by omega
   have hk:((l.length:Int)+1-(i:Int))=((l.length+1-i:Nat):Int):=by omega
   have k5:∀W,(Instr.slice 66 (.slice (some ⟨g,0,none⟩) l.length c) none (some (.int .i64 (i:Int))) none).run Try.prog W= .ok (.slice (some ⟨g,0,none⟩) i c) W:=fun W=>by
    have:=Zbu W Zh (some ⟨g,0,none⟩) l.length c i (by omega)
    rwa [ZfJ]at this
   have hold:∀(j:Nat) v,((l.take i).map DEnd.cells).flatten[j]? =some v→w.cell? ⟨g,j,none⟩=some v:=fun j v hj=>by
    rw[hB.cell]
    rw[←htk,List.getElem?_take]at hj
    split at hj
    ·exact hj
    ·cases hj
   have htl:((l.take i).map DEnd.cells).flatten.length=i*3:=by rw[Zu,List.length_take,Nat.min_eq_left (by omega)]
   have HS:=Lib.hid hsrcS
   have HVs:=Lib.hid hsrcV
   have HGL:=Lib.hid hB.lt
   have HCL:=Lib.hid hcsl
   have HI:=Lib.hid hil
   have HOld:=Lib.hid hold
   have HTL:=Lib.hid htl
   have HVL:=Lib.hid hv.lt
   have HK:=Lib.hid (show i+(l.length+1-i)=l.length+1 by omega)
   clear hsrcS hsrcV hcs hcsl htk hil hct hcl hown hv hnv hB hold htl
   go_enter Try.func53,Try.ntmps53
   have k6:∀(c':Nat) W,l.length+1≤c'→(Instr.slice 66 (.slice (some ⟨w.heap.size,0,none⟩) (l.length+1) c') (some (.int .i64 (i:Int))) none none).run Try.prog W= .ok (.slice (some ⟨w.heap.size,i*3,none⟩) (l.length+1-i) (c'-i)) W:=fun c' W hc'=>by
    have:=Zaf W Zh (some ⟨w.heap.size,0,none⟩) (l.length+1) c' i (by omega)
    rwa [Zcn (by omega)]at this
   have k7:∀(c':Nat) W,l.length+1≤c'→(Instr.slice 66 (.slice (some ⟨w.heap.size,0,none⟩) (l.length+1) c') (some (.int .i64 ((i:Int)+1))) none none).run Try.prog W= .ok (.slice (some ⟨w.heap.size,(i+1)*3,none⟩) (l.length-i) (c'-(i+1))) W:=fun c' W hc'=>by
    have:=Zaf W Zh (some ⟨w.heap.size,0,none⟩) (l.length+1) c' (i+1) (by omega)
    rwa [Zcn (by omega),show l.length+1-(i+1)=l.length-i by omega]at this
   have b5:IntKind.i64.wrap ((i:Int)+1)=(i:Int)+1:=IntWalk.i64_in _ (by omega)
   have b6:(0:Int)≤(i:Int)+1:=by omega
   have hKe:i+(l.length+1-i)=l.length+1:=HK.out
   go_wp2_with (first
    |(at_builtin;refine ZeW rfl rfl Zh Try.underlying3 (g:=g) (n:=i) (c:=c) (k:=l.length+1-i) rfl rfl HTL.out HOld.out (by omega) (by omega) (by omega) (by omega) ?_;intro c5 zs w5 hc5 hm5 hB5 hl5 hu5;rw[HK.out]at hc5;have HB5:=Lib.hid hB5;have HL5:=Lib.hid hl5;clear hB5 hl5)
    |(refine Zc5 rfl rfl Zh (g:=w.heap.size) (off:=i*3) (n:=1) (cs:=x.cells) rfl rfl HB5.out (by simp only[Nat.min_def];split<;>omega) rfl (HVs.out _ (hu5.block vb HVL.out id)) (by rw[HL5.out];show i*3+3≤_;omega) (ZdA x) ?_;intro w6 hB6 hu6;have HB6:=Lib.hid hB6;clear hB6))
   have HS6:=HS.out w6 ((hu6.block g (Nat.lt_of_lt_of_le HGL.out hu5.size) (by intro e;have:=HGL.out;cases e;omega)).trans (hu5.block g HGL.out id))
   have HSS:=Lib.hid HS6
   have hlen6:((((l.take i).map DEnd.cells).flatten++zs).take (i*3)++x.cells++(((l.take i).map DEnd.cells).flatten++zs).drop (i*3+x.cells.length)).length=c5*3:=by
    have h5:=HL5.out
    simp only[List.length_append,List.length_take,List.length_drop]at h5 ⊢
    show _+3+(_-(i*3+3))=_
    omega
   have HL6:=Lib.hid hlen6
   clear HS6 hlen6
   refine wp_region_noPanic ?_
   refine wp_region_held_drew (S:=(fun w'=>Upd (One w.heap.size) w6 w')) (by kernel_rfl) ?_ (fun hHeld=> ?_)
   ·(first|exact(Upd.refl _ _).drew|exact hU7)
   refine wpK 0 rfl ?_
   refine wpK 1 rfl ?_
   refine wpK 2 rfl ?_
   refine wpK 3 rfl ?_
   refine wpK 4 rfl ?_
   refine wpK 5 rfl ?_
   refine wpK 6 rfl ?_
   refine wpK 7 rfl ?_
   refine wpR [8] ?_
   refine wpC rfl (fun K hK=> ?_) AllReadyH.nil
   (first
  |(refine Zcb rfl rfl Zh (g:=w.heap.size) (off:=(i+1)*3) (n:=l.length-i) (cs:=((l.drop i).map DEnd.cells).flatten) rfl rfl (show Blk _ w.heap.size 72 _ from HB6.out) (by simp only[Nat.min_def];split<;>omega) HCL.out HSS.out (by rw[HL6.out,HCL.out];omega) ZcV ?_;intro w7 hB7 hu7;have hU7:Upd (One w.heap.size) w6 w7:=hu7.of_drew))
   refine hK.out _ _ ?_ (fun hHeld=> ?_)
   ·(first|exact(Upd.refl _ _).drew|exact hU7)
   clear hK K
   try simp only[Act.put,sT,sS,sZ]
   refine wpD (NoPanic.normal ?_)
   have HB7:=hB7
   have hz5:3≤zs.length:=by
    have h5:=HL5.out
    rw[List.length_append,HTL.out]at h5
    omega
   have hlen7:=HL6.out
   rw[Zfp HTL.out rfl hz5]at HB7
   have hU:=(hu5.mono (T:=One w.heap.size) (fun _ _ e=>e.elim)).trans (hu6.trans hU7)
   have H7:=Lib.hid (And.intro HB7 hU)
   clear hB7 HB7 hu7 hU hHeld hU7 k6 k7 hu6 hu5
   go_wp2
   go_ret
   have hown7:=Zo (size:=3) (n:=l.length+1) (xs:=((ZQ l i x).map DEnd.cells).flatten) H7.out.1 hbase hc5 (by
    have h5:=HL5.out
    simp only[List.length_append,List.length_drop,HCL.out,HTL.out]at h5 ⊢
    show i*3+3+_+_=_
    omega) (Zds (R1:=[]) l i x hi rfl) hm5 (by rw[Zu,HI.out])
   refine⟨some ⟨w.heap.size,0,none⟩,c5,by rw[HI.out];rfl,?_,H7.out.2.trans_ (Upd.refl _ _) (fun _ _ e=>e) |>.mono (fun j hj e=>by cases e;omega),.inr ⟨_,rfl,Nat.le_refl _⟩⟩
   rw[HI.out]
   exact hown7
end Go.Proofs.Ytfcefnpnomlgbaa
/- Digraphs:an end taken out from among others. -/
namespace Go.Proofs.Ytfcefnpnomlgbaa
set_option linter.unusedSimpArgs false
set_option linter.unusedVariables false
open Go.RowKit
def Zc1 (l:List DEnd) (i:Nat):List DEnd:=l.take i++l.drop (i+1)
end Go.Proofs.Ytfcefnpnomlgbaa
/- Digraphs:ends put in and taken out. -/
namespace Go.Proofs.Ytfcefnpnomlgbaa
set_option linter.unusedSimpArgs false
set_option linter.unusedVariables false
open Go.RowKit
theorem Za3 {w:World} {base:Nat} {A:Option Addr} {c:Nat} {l:List DEnd} (h:w.ownsRow base 72 3 (.slice A l.length c) l.length (l.map DEnd.cells).flatten):DEnds (Own (.slice A l.length c)) w A l:=
 Recs.of_own (n:=l.length) (c:=c) ZcW (by omega) h
theorem Grew.older {w W:World} {v v':Value} (h:Grew W v v') (k:w.heap.size≤W.heap.size):Grew w v v':=by
 rcases h with h|⟨j,h1,h2⟩
 ·exact .inl h
 ·exact .inr ⟨j,h1,Nat.le_trans k h2⟩
set_option maxRecDepth 100000 in
theorem Zgn (w:World) (base:Nat) (A:Option Addr) (c:Nat) (l:List DEnd) (e:DEnd) (p:Nat) (hown:w.ownsRow base 72 3 (.slice A l.length c) l.length (l.map DEnd.cells).flatten) (hp:Zc3 l e p) (hl:l.length≤100000) (hbase:base≤w.heap.size):
  Calls Try.prog 39 #[.slice A l.length c,.agg e.cells.toArray] w (Zgv w base (.slice A l.length c) (ZQ l p e)):=by
 have u0:=(Upd.refl No w).alloc (.cells e.cells.toArray 72)
 have bE:=Lib.hid (Blk.new w 72 e.cells)
 have hf:=Lib.hid (ZfH _ (w.alloc (.cells e.cells.toArray 72)) A c l e p ((Za3 hown).upd u0 (fun _ _=>id)) (by omega) hp)
 have hp1:=hp.1
 have HO:=Lib.hid hown
 have U0:=Lib.hid u0
 obtain⟨ek,el,en⟩:=e
 unfold DEnd.cells at*
 clear hown hp u0
 go_enter Try.func39,Try.ntmps39
 go_wp2_with fail
 refine(hf.out).mono ?_
 rintro e w1 ⟨rfl,hu1⟩
 have b1:=bE.out.upd hu1 id
 have c0:=b1.cell 0
 have c1:=b1.cell 1
 have c2:=b1.cell 2
 simp only[List.getElem?_cons_zero,List.getElem?_cons_succ]at c0 c1 c2
 have hU:=U0.out.trans hu1
 have uV:=hU.alloc (.cells #[.int .i64 ek,.int .i64 el,.int .i64 en] 72)
 have hown2:=Zb HO.out uV (fun _ _=>id)
 have hnv:¬Own (.slice A l.length c) w1.heap.size:=fun e=>by
  have h1:=(HO.out.lt _ e).2
  have h2:=hU.size
  omega
 have hd:=Lib.hid (Zg6 (w1.alloc (.cells #[.int .i64 ek,.int .i64 el,.int .i64 en] 72)) base A c l p ⟨ek,el,en⟩ w1.heap.size hown2 (Blk.new w1 72 [.int .i64 ek,.int .i64 el,.int .i64 en]) hnv hp1 hl (Nat.le_trans hbase uV.size))
 have UV:=Lib.hid uV
 clear b1 hu1 hU uV hown2 hnv
 go_wp2_with fail
 refine(hd.out).mono ?_
 rintro e w2 ⟨A4,c4,rfl,ho4,hu4,hg4⟩
 have H4:=Lib.hid (And.intro ho4 (And.intro hu4 hg4))
 clear ho4 hu4 hg4
 go_wp2
 go_ret
 exact⟨A4,c4,rfl,H4.out.1,(UV.out.mono (fun _ _ e=>e.elim)).trans H4.out.2.1,H4.out.2.2.older UV.out.size⟩
/-! rising ends -/
def ZE (l:List DEnd):Prop:=l.Pairwise fun a b=>Zm a b<0
theorem Zcz {a b:Int}:Zp a b<0↔a<b:=by unfold Zp;split<;>(try split)<;>omega
theorem cmpI_eq {a b:Int}:Zp a b=0↔a=b:=by unfold Zp;split<;>(try split)<;>omega
theorem ZbM (a b:DEnd):Zm a b<0↔a.kind<b.kind∨(a.kind=b.kind∧(a.label<b.label∨(a.label=b.label∧a.node<b.node))):=by
 unfold Zm
 simp only[ZbW]
 by_cases h1:a.kind=b.kind
 ·rw[if_pos (cmpI_eq.2 h1)]
  by_cases h2:a.label=b.label
  ·rw[if_pos (cmpI_eq.2 h2)]
   by_cases h3:a.node=b.node
   ·rw[if_pos (cmpI_eq.2 h3)]
    simp[orI,h1,h2,h3]
   ·rw[if_neg (fun e=>h3 (cmpI_eq.1 e)),Zcz]
    simp[h1,h2]
  ·rw[if_neg (fun e=>h2 (cmpI_eq.1 e)),Zcz]
   simp[h1,h2]
 ·rw[if_neg (fun e=>h1 (cmpI_eq.1 e)),Zcz]
  simp[h1]
theorem ZbN (a b:DEnd):Zm a b=0↔a=b:=by
 obtain⟨ak,al,an⟩:=a
 obtain⟨bk,bl,bn⟩:=b
 unfold Zm
 simp only[ZbW,DEnd.mk.injEq]
 by_cases h1:ak=bk
 ·rw[if_pos (cmpI_eq.2 h1)]
  by_cases h2:al=bl
  ·rw[if_pos (cmpI_eq.2 h2)]
   by_cases h3:an=bn
   ·rw[if_pos (cmpI_eq.2 h3)]
    simp[orI,h1,h2,h3]
   ·rw[if_neg (fun e=>h3 (cmpI_eq.1 e)),cmpI_eq]
    simp[h1,h2]
  ·rw[if_neg (fun e=>h2 (cmpI_eq.1 e)),cmpI_eq]
   simp[h2]
 ·rw[if_neg (fun e=>h1 (cmpI_eq.1 e)),cmpI_eq]
  simp[h1]
theorem Zcq {a b c:DEnd} (h:Zm a b<0) (k:Zm b c<0):Zm a c<0:=by
 rw[ZbM]at*;omega
def Ze (l:List DEnd) (e:DEnd):Nat:=l.countP fun x=>decide (Zm x e<0)
theorem Z3 {l:List DEnd} (h:ZE l) (e:DEnd):Zc3 l e (Ze l e):=by
 refine⟨List.countP_le_length,?_⟩
 induction l with
 |nil=>intro k hk;simp at hk
 |cons a l ih=>
  have h':=List.pairwise_cons.1 h
  intro k hk
  unfold Ze
  rw[List.countP_cons]
  by_cases ha:Zm a e<0
  ·rw[if_pos (by simpa using ha)]
   cases k with
   |zero=>simp only[List.getElem_cons_zero,ha,true_iff];omega
   |succ k=>
    rw[List.getElem_cons_succ,ih h'.2 k (by simpa using hk)]
    unfold Ze
    omega
  ·rw[if_neg (by simpa using ha)]
   have h0:l.countP (fun x=>decide (Zm x e<0))=0:=by
    rw[List.countP_eq_zero]
    intro x hx
    simp only[decide_eq_true_eq]
    exact fun hxe=>ha (Zcq (h'.1 x hx) hxe)
   rw[h0]
   cases k with
   |zero=>simp only[List.getElem_cons_zero,ha,false_iff];omega
   |succ k=>
    rw[List.getElem_cons_succ]
    constructor
    ·intro hx
     exact absurd (Zcq (h'.1 _ (List.getElem_mem _)) hx) ha
    ·intro hx;omega
theorem ZbZ {l:List DEnd} (h:ZE l) (e:DEnd):Zbn l e (Ze l e)=decide (e∈l):=by
 have hp:=Z3 h e
 rw[Bool.eq_iff_iff,decide_eq_true_eq]
 unfold Zbn
 constructor
 ·intro hi
  split at hi
  ·rename_i x hx
   have:=(ZbN x e).1 (by simpa using hi)
   subst this
   exact List.mem_of_getElem? hx
  ·cases hi
 ·intro hm
  obtain⟨k,hk,rfl⟩:=List.mem_iff_getElem.1 hm
  have h1:¬k<Ze l l[k]:=fun hlt=>by
   have:=(hp.2 k hk).2 hlt
   rw[(ZbN _ _).2 rfl]at this
   omega
  have h2:¬Ze l l[k]<k:=fun hlt=>by
   have h3:=List.pairwise_iff_getElem.1 h (Ze l l[k]) k (by omega) hk hlt
   have:=(hp.2 _ (by omega)).1 h3
   omega
  have h3:Ze l l[k]=k:=by omega
  rw[h3,List.getElem?_eq_getElem hk]
  simp[(ZbN _ _).2 rfl]
end Go.Proofs.Ytfcefnpnomlgbaa
