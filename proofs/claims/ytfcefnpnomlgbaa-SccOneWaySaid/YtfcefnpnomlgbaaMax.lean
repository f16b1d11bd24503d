/- Digraphs: how one lies in memory; what reads it. -/
import Derived.Test.YtfcefnpnomlgbaaMaw
namespace Go.Proofs.Ytfcefnpnomlgbaa
set_option linter.unusedSimpArgs false
set_option linter.unusedVariables false
open Go.RowKit
structure HArc where
 f:Int
 t:Int
 kind:Int
 label:Int
deriving DecidableEq
def HArc.cells (a:HArc):List Value:=[.int .i64 a.f,.int .i64 a.t,.int .i64 a.kind,.int .i64 a.label]
def RowsD (w:World) (base:Nat) (hs:List Value) (ls:List (List DEnd)):Prop:=
 hs.length=ls.length∧∀i (hi:i<ls.length),∃A c,hs[i]? =some (.slice A ls[i].length c)∧w.ownsRow base 72 3 (.slice A ls[i].length c) ls[i].length (ls[i].map DEnd.cells).flatten
def ApartD (hs:List Value):Prop:=∀(i j:Nat) (v u:Value) (k:Nat),hs[i]? =some v→hs[j]? =some u→i≠j→Own v k→¬Own u k
structure GIs (w:World) (G:Nat→Prop) (g:Nat) (out inn:List (List DEnd)) (n:Int) (ob ib:Nat) (oh ih:List Value) (base:Nat):Prop where
 blk:Blk w g 69 [.slice (some ⟨ob,0,none⟩) out.length out.length,.slice (some ⟨ib,0,none⟩) out.length out.length,.int .i64 n]
 ob_:Blk w ob 66 oh
 ib_:Blk w ib 66 ih
 len:inn.length=out.length
 ro:RowsD w base oh out
 ri:RowsD w base ih inn
 dis:ApartD (oh++ih)
 low:g<base∧ob<base∧ib<base
 ne:g≠ob∧g≠ib∧ob≠ib
 inG:G g∧G ob∧G ib∧∀v∈oh++ih,∀k,Own v k→G k
 old:∀k,G k→k<w.heap.size
 few:out.length≤4096∧(∀l∈out,l.length≤100000)∧(∀l∈inn,l.length≤100000)
theorem RowsD.upd {S:Nat→Prop} {w w':World} {base:Nat} {hs:List Value} {ls:List (List DEnd)} (h:RowsD w base hs ls) (k:Upd S w w') (hn:∀v∈hs,∀i,Own v i→¬S i):RowsD w' base hs ls:=
 ⟨h.1,fun i hi=>by
  obtain⟨A,c,h1,h2⟩:=h.2 i hi
  exact⟨A,c,h1,Zb h2 k (fun j e=>hn _ (List.mem_of_getElem? h1) j e)⟩⟩
theorem GIs.upd {S:Nat→Prop} {w w':World} {G:Nat→Prop} {g:Nat} {out inn:List (List DEnd)} {n:Int} {ob ib:Nat} {oh ih:List Value} {base:Nat} (h:GIs w G g out inn n ob ib oh ih base) (k:Upd S w w') (hn:∀i,G i→¬S i):GIs w' G g out inn n ob ib oh ih base:=
 {h with
  blk:=h.blk.upd k (hn _ h.inG.1)
  ob_:=h.ob_.upd k (hn _ h.inG.2.1)
  ib_:=h.ib_.upd k (hn _ h.inG.2.2.1)
  ro:=h.ro.upd k fun v hv i e=>hn _ (h.inG.2.2.2 v (List.mem_append_left _ hv) i e)
  old:=fun i hi=>Nat.lt_of_lt_of_le (h.old i hi) k.size
  ri:=h.ri.upd k fun v hv i e=>hn _ (h.inG.2.2.2 v (List.mem_append_right _ hv) i e)}
section
variable {w:World} {G:Nat→Prop} {g:Nat} {out inn:List (List DEnd)} {n:Int} {ob ib:Nat} {oh ih:List Value} {base:Nat}
theorem Zdy (h:GIs w G g out inn n ob ib oh ih base):Calls Try.prog 26 #[.pointer (some ⟨g,0,none⟩)] w fun e w'=>e= .returned (.int .i64 (out.length:Int))∧w=w':=by
 have c0:=h.blk.cell 0
 simp only[List.getElem?_cons_zero]at c0
 go_enter Try.func26,Try.ntmps26
 go_wp2
 go_ret
 exact⟨rfl,rfl⟩
def Zi (N:Nat) (i:Int):Bool:=decide (0≤i)&&decide (i<(N:Int))
theorem Zei (h:GIs w G g out inn n ob ib oh ih base) (i:Int):Calls Try.prog 34 #[.pointer (some ⟨g,0,none⟩),.int .i64 i] w fun e w'=>e= .returned (.bool (Zi out.length i))∧w=w':=by
 have HN:=Lib.hid (Zdy h)
 by_cases h0:0≤i
 ·have HV:=Lib.hid (show Zi out.length i=decide (i<(out.length:Int)) by unfold Zi;rw[decide_eq_true h0];rfl)
  go_enter Try.func34,Try.ntmps34
  go_wp2_with fail
  refine(HN.out).mono ?_
  rintro e w1 ⟨rfl,rfl⟩
  go_wp2
  go_ret
  exact⟨by rw[HV.out];rfl,rfl⟩
 ·have HV:=Lib.hid (show Zi out.length i=false by unfold Zi;rw[decide_eq_false h0];rfl)
  have hb:decide (0≤i)=false:=decide_eq_false h0
  clear h0
  go_enter Try.func34,Try.ntmps34
  go_wp2
  go_ret
  exact⟨by rw[HV.out];rfl,rfl⟩
def Zd (N:Nat) (a:HArc):Bool:=Zi N a.f&&(Zi N a.t&&(decide (1≤a.kind)&&(decide (a.kind≤3)&&(decide (0≤a.label)&&decide (a.label≤1048575)))))
set_option maxRecDepth 100000 in
theorem ZeM (h:GIs w G g out inn n ob ib oh ih base) (a:HArc):Calls Try.prog 36 #[.pointer (some ⟨g,0,none⟩),.agg a.cells.toArray] w fun e w'=>e= .returned (.bool (Zd out.length a))∧Upd No w w':=by
 obtain⟨af,at',ak,al⟩:=a
 unfold HArc.cells
 have u0:=(Upd.refl No w).alloc (.cells #[.int .i64 af,.int .i64 at',.int .i64 ak,.int .i64 al] 28)
 have hn:=fun i=>Zei (h.upd u0 (fun _ _=>id)) i
 obtain⟨b1,hb1⟩:∃b,Zi out.length af=b:=⟨_,rfl⟩
 obtain⟨b2,hb2⟩:∃b,Zi out.length at'=b:=⟨_,rfl⟩
 have hn1:=hn af
 have hn2:=hn at'
 rw[hb1]at hn1
 rw[hb2]at hn2
 have HN1:=Lib.hid hn1
 have HN2:=Lib.hid hn2
 have hv:Zd out.length ⟨af,at',ak,al⟩=(b1&&(b2&&(decide (1≤ak)&&(decide (ak≤3)&&(decide (0≤al)&&decide (al≤1048575)))))):=by unfold Zd;rw[hb1,hb2]
 have HV:=Lib.hid hv
 clear hn hn1 hn2 hb1 hb2 hv
 cases b1
 ·go_enter Try.func36,Try.ntmps36
  go_wp2_with fail
  refine(HN1.out).mono ?_
  rintro e w1 ⟨rfl,rfl⟩
  go_wp2
  go_ret
  exact⟨by rw[HV.out];rfl,u0⟩
 ·cases b2
  ·go_enter Try.func36,Try.ntmps36
   go_wp2_with fail
   refine(HN1.out).mono ?_
   rintro e w1 ⟨rfl,rfl⟩
   go_wp2_with fail
   refine(HN2.out).mono ?_
   rintro e w1 ⟨rfl,rfl⟩
   go_wp2
   go_ret
   exact⟨by rw[HV.out];rfl,u0⟩
  ·by_cases k1:1≤ak
   ·by_cases k2:ak≤3
    ·by_cases k3:0≤al
     ·have HW:=Lib.hid (show Zd out.length ⟨af,at',ak,al⟩=decide (al≤1048575) by rw[HV.out,decide_eq_true k1,decide_eq_true k2,decide_eq_true k3];rfl)
      go_enter Try.func36,Try.ntmps36
      go_wp2_with fail
      refine(HN1.out).mono ?_
      rintro e w1 ⟨rfl,rfl⟩
      go_wp2_with fail
      refine(HN2.out).mono ?_
      rintro e w1 ⟨rfl,rfl⟩
      go_wp2
      go_ret
      exact⟨by rw[HW.out];rfl,u0⟩
     ·have HW:=Lib.hid (show Zd out.length ⟨af,at',ak,al⟩=false by rw[HV.out,decide_eq_false k3];simp)
      have kb:decide (0≤al)=false:=decide_eq_false k3
      clear k3
      go_enter Try.func36,Try.ntmps36
      go_wp2_with fail
      refine(HN1.out).mono ?_
      rintro e w1 ⟨rfl,rfl⟩
      go_wp2_with fail
      refine(HN2.out).mono ?_
      rintro e w1 ⟨rfl,rfl⟩
      go_wp2
      go_ret
      exact⟨by rw[HW.out];rfl,u0⟩
    ·have HW:=Lib.hid (show Zd out.length ⟨af,at',ak,al⟩=false by rw[HV.out,decide_eq_false k2];simp)
     have kb:decide (ak≤3)=false:=decide_eq_false k2
     clear k2
     go_enter Try.func36,Try.ntmps36
     go_wp2_with fail
     refine(HN1.out).mono ?_
     rintro e w1 ⟨rfl,rfl⟩
     go_wp2_with fail
     refine(HN2.out).mono ?_
     rintro e w1 ⟨rfl,rfl⟩
     go_wp2
     go_ret
     exact⟨by rw[HW.out];rfl,u0⟩
   ·have HW:=Lib.hid (show Zd out.length ⟨af,at',ak,al⟩=false by rw[HV.out,decide_eq_false k1];simp)
    have kb:decide (1≤ak)=false:=decide_eq_false k1
    clear k1
    go_enter Try.func36,Try.ntmps36
    go_wp2_with fail
    refine(HN1.out).mono ?_
    rintro e w1 ⟨rfl,rfl⟩
    go_wp2_with fail
    refine(HN2.out).mono ?_
    rintro e w1 ⟨rfl,rfl⟩
    go_wp2
    go_ret
    exact⟨by rw[HW.out];rfl,u0⟩
end
def Zx (a:HArc):DEnd:=⟨a.kind,a.label,a.t⟩
def inE (a:HArc):DEnd:=⟨a.kind,a.label,a.f⟩
theorem Upd.blk {S:Nat→Prop} {w w':World} {g:Nat} {t:TypeId} {cs:List Value} (k:Upd S w w') (h:Blk w g t cs) (hn:¬S g):Blk w' g t cs:=h.upd k hn
def ZaG (a b:Nat):Nat→Prop:=fun i=>i=a∨i=b
set_option maxRecDepth 100000 in
set_option maxHeartbeats 1000000 in
theorem ZfI (w:World) (a:HArc):Calls Try.prog 38 #[.agg a.cells.toArray] w fun e w'=>e= .returned (.tuple #[.agg (Zx a).cells.toArray,.agg (inE a).cells.toArray])∧Upd No w w':=by
 obtain⟨af,at',ak,al⟩:=a
 unfold HArc.cells
 obtain⟨wb,hwb⟩:∃wb,((w.alloc (.cells #[.int .i64 af,.int .i64 at',.int .i64 ak,.int .i64 al] 28)).alloc (.cells #[.int .i64 0,.int .i64 0,.int .i64 0] 72)).alloc (.cells #[.int .i64 0,.int .i64 0,.int .i64 0] 72)=wb:=⟨_,rfl⟩
 have u0:Upd No w wb:=by rw[←hwb];exact(((Upd.refl No w).alloc _).alloc _).alloc _
 have bA:Blk wb w.heap.size 28 [.int .i64 af,.int .i64 at',.int .i64 ak,.int .i64 al]:=by rw[←hwb];exact((Blk.new w 28 [.int .i64 af,.int .i64 at',.int .i64 ak,.int .i64 al]).alloc _).alloc _
 have h1:Blk wb (w.heap.size+1) 72 [.int .i64 0,.int .i64 0,.int .i64 0]:=by
  rw[←hwb]
  have:=(Blk.new (w.alloc (.cells #[.int .i64 af,.int .i64 at',.int .i64 ak,.int .i64 al] 28)) 72 [.int .i64 0,.int .i64 0,.int .i64 0]).alloc (.cells #[.int .i64 0,.int .i64 0,.int .i64 0] 72)
  simpa using this
 have h2:Blk wb (w.heap.size+1+1) 72 [.int .i64 0,.int .i64 0,.int .i64 0]:=by
  rw[←hwb]
  have:=Blk.new ((w.alloc (.cells #[.int .i64 af,.int .i64 at',.int .i64 ak,.int .i64 al] 28)).alloc (.cells #[.int .i64 0,.int .i64 0,.int .i64 0] 72)) 72 [.int .i64 0,.int .i64 0,.int .i64 0]
  simpa using this
 have hn:¬ZaG (w.heap.size+1) (w.heap.size+1+1) w.heap.size:=by unfold ZaG;omega
 have a0:∀W,Upd (ZaG (w.heap.size+1) (w.heap.size+1+1)) wb W→W.cell? ⟨w.heap.size,0,none⟩=some (.int .i64 af):=fun W hW=>(bA.upd hW hn).cell 0
 have a1:∀W,Upd (ZaG (w.heap.size+1) (w.heap.size+1+1)) wb W→W.cell? ⟨w.heap.size,1,none⟩=some (.int .i64 at'):=fun W hW=>(bA.upd hW hn).cell 1
 have a2:∀W,Upd (ZaG (w.heap.size+1) (w.heap.size+1+1)) wb W→W.cell? ⟨w.heap.size,2,none⟩=some (.int .i64 ak):=fun W hW=>(bA.upd hW hn).cell 2
 have a3:∀W,Upd (ZaG (w.heap.size+1) (w.heap.size+1+1)) wb W→W.cell? ⟨w.heap.size,3,none⟩=some (.int .i64 al):=fun W hW=>(bA.upd hW hn).cell 3
 have HWB:=Lib.hid hwb
 have U0:=Lib.hid u0
 clear hwb u0 bA hn
 have H1:=Lib.hid h1
 have H2:=Lib.hid h2
 clear h1 h2
 go_enter Try.func38,Try.ntmps38
 go_wp2
 rw[HWB.out]
 refine wp_region_noPanic ?_
 refine wp_region_held_drew (S:=(fun w'=>Upd (ZaG (w.heap.size+1) (w.heap.size+1+1)) wb w')) (by kernel_rfl) ?_ (fun hHeld=> ?_)
 ·(first|exact(Upd.refl _ _).drew|exact hHeld.trans hq)
 refine wpK 0 rfl ?_
 refine wpK 1 rfl ?_
 refine wpK 2 rfl ?_
 refine wpK 3 rfl ?_
 refine wpK 4 rfl ?_
 refine wpK 5 rfl ?_
 refine wpK 6 rfl ?_
 refine wpK 7 rfl ?_
 refine wpK 8 rfl ?_
 refine wpK 9 rfl ?_
 refine wpK 10 rfl ?_
 refine wpK 11 rfl ?_
 refine wpK 12 rfl ?_
 refine wpK 13 rfl ?_
 refine wpR [14] ?_
 refine wpC rfl (fun K hK=> ?_) AllReadyH.nil
 (first
  |(refine Zaw rfl rfl (g:=w.heap.size+1) (cells:=[.int .i64 ak,.int .i64 al,.int .i64 at']) rfl rfl (show Blk _ _ 72 [.int .i64 0,.int .i64 0,.int .i64 0] from H1.out) (by kernel_rfl) rfl rfl ?_;intro w5 hb5 hu5;have H1:=Lib.hid hb5;have H2:=Lib.hid (hu5.blk (g:=w.heap.size+1+1) (t:=72) (cs:=[.int .i64 0,.int .i64 0,.int .i64 0]) (by exact H2.out) (by unfold One;omega));have hq:=hu5.mono (T:=ZaG (w.heap.size+1) (w.heap.size+1+1)) (fun _ _ e=>Or.inl e);clear hb5 hu5)
  |(refine Zaw rfl rfl (g:=w.heap.size+1+1) (cells:=[.int .i64 ak,.int .i64 al,.int .i64 af]) rfl rfl (show Blk _ _ 72 [.int .i64 0,.int .i64 0,.int .i64 0] from H2.out) (by kernel_rfl) rfl rfl ?_;intro w5 hb5 hu5;have H2:=Lib.hid hb5;have H1:=Lib.hid (hu5.blk (g:=w.heap.size+1) (t:=72) (cs:=[.int .i64 ak,.int .i64 al,.int .i64 at']) (by exact H1.out) (by unfold One;omega));have hq:=hu5.mono (T:=ZaG (w.heap.size+1) (w.heap.size+1+1)) (fun _ _ e=>Or.inr e);clear hb5 hu5))
 refine hK.out _ _ ?_ (fun hHeld=> ?_)
 ·(first|exact(Upd.refl _ _).drew|exact hHeld.trans hq)
 clear hK K
 try simp only[Act.put,sT,sS,sZ]
 refine wpR [15] ?_
 refine wpC rfl (fun K hK=> ?_) AllReadyH.nil
 (first
  |(refine Zaw rfl rfl (g:=w.heap.size+1) (cells:=[.int .i64 ak,.int .i64 al,.int .i64 at']) rfl rfl (show Blk _ _ 72 [.int .i64 0,.int .i64 0,.int .i64 0] from H1.out) (by kernel_rfl) rfl rfl ?_;intro w5 hb5 hu5;have H1:=Lib.hid hb5;have H2:=Lib.hid (hu5.blk (g:=w.heap.size+1+1) (t:=72) (cs:=[.int .i64 0,.int .i64 0,.int .i64 0]) (by exact H2.out) (by unfold One;omega));have hq:=hu5.mono (T:=ZaG (w.heap.size+1) (w.heap.size+1+1)) (fun _ _ e=>Or.inl e);clear hb5 hu5)
  |(refine Zaw rfl rfl (g:=w.heap.size+1+1) (cells:=[.int .i64 ak,.int .i64 al,.int .i64 af]) rfl rfl (show Blk _ _ 72 [.int .i64 0,.int .i64 0,.int .i64 0] from H2.out) (by kernel_rfl) rfl rfl ?_;intro w5 hb5 hu5;have H2:=Lib.hid hb5;have H1:=Lib.hid (hu5.blk (g:=w.heap.size+1) (t:=72) (cs:=[.int .i64 ak,.int .i64 al,.int .i64 at']) (by exact H1.out) (by unfold One;omega));have hq:=hu5.mono (T:=ZaG (w.heap.size+1) (w.heap.size+1+1)) (fun _ _ e=>Or.inr e);clear hb5 hu5))
 refine hK.out _ _ ?_ (fun hHeld=> ?_)
 ·(first|exact(Upd.refl _ _).drew|exact hHeld.trans hq)
 clear hK K
 try simp only[Act.put,sT,sS,sZ]
 refine wpD (NoPanic.normal ?_)
 all_goals
  have r0:=H1.out.cell 0
  have r1:=H1.out.cell 1
  have r2:=H1.out.cell 2
  have s0:=H2.out.cell 0
  have s1:=H2.out.cell 1
  have s2:=H2.out.cell 2
  simp only[List.getElem?_cons_zero,List.getElem?_cons_succ]at r0 r1 r2 s0 s1 s2
  have HU:=Lib.hid (U0.out.then_ hHeld (fun i e=>by unfold ZaG at e;exact .inr (by omega)))
  clear hHeld a0 a1 a2 a3
  go_wp2
  refine bodyPost_ret (v:= .tuple #[.agg #[.int .i64 ak,.int .i64 al,.int .i64 at'],.agg #[.int .i64 ak,.int .i64 al,.int .i64 af]]) (by simp[results,Try.results38,go_sem,r0,r1,r2,s0,s1,s2]) rfl ?_
  exact⟨rfl,HU.out⟩
end Go.Proofs.Ytfcefnpnomlgbaa
/- Digraphs:whether an arc is there. -/
namespace Go.Proofs.Ytfcefnpnomlgbaa
set_option linter.unusedSimpArgs false
set_option linter.unusedVariables false
open Go.RowKit
theorem Z9 {N:Nat} {a:HArc} (h:Zd N a=true):∃i j:Nat,a.f=(i:Int)∧a.t=(j:Int)∧i<N∧j<N:=by
 simp only[Zd,Zi,Bool.and_eq_true,decide_eq_true_eq]at h
 exact⟨a.f.toNat,a.t.toNat,by omega,by omega,by omega,by omega⟩
theorem ZdL (w0 w2:World) (h:Upd No w0 w2) (t:TypeId) (c1 c2:List Value) (wb:World) (e:(w2.alloc (.cells c1.toArray t)).alloc (.cells c2.toArray t)=wb):Blk wb w2.heap.size t c1∧Blk wb (w2.heap.size+1) t c2∧Upd No w0 wb∧Upd No w2 wb:=by
 subst e
 refine⟨(Blk.new w2 t c1).alloc _,?_,(h.alloc _).alloc _,((Upd.refl No w2).alloc _).alloc _⟩
 have:=Blk.new (w2.alloc (.cells c1.toArray t)) t c2
 simpa using this
def ZaU (out:List (List DEnd)) (a:HArc):Bool:=Zd out.length a&&(match out[a.f.toNat]? with|some l=>decide (Zx a∈l)|none=>false)
section
variable {w:World} {G:Nat→Prop} {g:Nat} {out inn:List (List DEnd)} {n:Int} {ob ib:Nat} {oh ih:List Value} {base:Nat}
set_option maxRecDepth 100000 in
theorem Zg7 (h:GIs w G g out inn n ob ib oh ih base) (hr:∀l∈out,ZE l) (a:HArc):Calls Try.prog 37 #[.pointer (some ⟨g,0,none⟩),.agg a.cells.toArray] w fun e w'=>e= .returned (.bool (ZaU out a))∧Upd No w w':=by
 have u0:=(Upd.refl No w).alloc (.cells a.cells.toArray 28)
 have hn:=Lib.hid (ZeM (h.upd u0 (fun _ _=>id)) a)
 have bA:=Lib.hid (Blk.new w 28 a.cells)
 have HH:=Lib.hid h
 have U0:=Lib.hid u0
 by_cases hR:Zd out.length a=true
 ·obtain⟨i,j,e1,e2,hi,hj⟩:=Z9 hR
  have hv:ZaU out a=decide (Zx a∈out[i]):=by
   unfold ZaU;rw[hR,e1];simp[List.getElem?_eq_getElem hi]
  have HV:=Lib.hid hv
  have HE:=Lib.hid (fun(W:World)=>ZfI W a)
  rw[hR]at hn
  obtain⟨A,c,hoi,hown⟩:=h.ro.2 i hi
  have HO:=Lib.hid hown
  have HRi:=Lib.hid (hr _ (List.getElem_mem hi))
  have hfew:=h.few.2.1 _ (List.getElem_mem hi)
  obtain⟨af,at',ak,al⟩:=a
  subst e1 e2
  unfold HArc.cells at*
  simp only[Zx,inE,DEnd.cells]at HE
  clear hR hv h u0 hr hown
  go_enter Try.func37,Try.ntmps37
  go_wp2_with fail
  refine(hn.out).mono ?_
  rintro e w1 ⟨rfl,hu1⟩
  have b1:=bA.out.upd hu1 id
  have c0:=b1.cell 0
  have c1:=b1.cell 1
  have c2:=b1.cell 2
  have c3:=b1.cell 3
  simp only[List.getElem?_cons_zero,List.getElem?_cons_succ]at c0 c1 c2 c3
  have U1:=Lib.hid (U0.out.trans hu1)
  have B1:=Lib.hid b1
  clear b1 hu1 hn bA U0
  go_wp2_with fail
  refine((HE.out _)).mono ?_
  rintro e w2 ⟨rfl,hu2⟩
  have U2:=Lib.hid (U1.out.trans hu2)
  have B2:=Lib.hid (B1.out.upd hu2 id)
  clear B1 U1 hu2 c0 c1 c2 c3 HE
  go_wp2
  obtain⟨wb,hwb⟩:∃wb,(w2.alloc (.cells #[.int .i64 ak,.int .i64 al,.int .i64 (j:Int)] 72)).alloc (.cells #[.int .i64 ak,.int .i64 al,.int .i64 (i:Int)] 72)=wb:=⟨_,rfl⟩
  obtain⟨n1,n2,n3,n4⟩:=ZdL w w2 U2.out 72 [.int .i64 ak,.int .i64 al,.int .i64 (j:Int)] [.int .i64 ak,.int .i64 al,.int .i64 (i:Int)] wb hwb
  have b4:=B2.out.upd n4 id
  have hg:=HH.out.upd n3 (fun _ _=>id)
  have hoiL:=List.getElem?_eq_some_iff.1 hoi
  have g0:∀W,Upd No wb W→W.cell? ⟨g,0,none⟩=some (.slice (some ⟨ob,0,none⟩) out.length out.length):=fun W hW=>(hg.blk.upd hW id).cell 0
  have a0:∀W,Upd No wb W→W.cell? ⟨w.heap.size,0,none⟩=some (.int .i64 (i:Int)):=fun W hW=>(b4.upd hW id).cell 0
  have oi:∀W,Upd No wb W→W.cell? ⟨ob,i,none⟩=some (.slice A out[i].length c):=fun W hW=>by rw[(hg.ob_.upd hW id).cell i];exact hoi
  have e0:∀W,Upd No wb W→W.cell? ⟨w2.heap.size,0,none⟩=some (.int .i64 ak):=fun W hW=>(n1.upd hW id).cell 0
  have e1:∀W,Upd No wb W→W.cell? ⟨w2.heap.size,1,none⟩=some (.int .i64 al):=fun W hW=>(n1.upd hW id).cell 1
  have e2:∀W,Upd No wb W→W.cell? ⟨w2.heap.size,2,none⟩=some (.int .i64 (j:Int)):=fun W hW=>(n1.upd hW id).cell 2
  have HC:=Lib.hid (fun(W:World) (hW:Upd No wb W)=>ZfH _ W A c out[i] ⟨ak,al,(j:Int)⟩ (Ze out[i] ⟨ak,al,(j:Int)⟩) ((Za3 (Zb HO.out n3 (fun _ _=>id))).upd hW (fun _ _=>id)) (by omega) (Z3 HRi.out _))
  have k1:(0:Int)≤(i:Int):=Int.natCast_nonneg _
  have k2:(i:Int)<(out.length:Int):=by omega
  rw[ZbZ HRi.out]at HC
  unfold DEnd.cells at HC
  obtain⟨bv,hbv⟩:∃b,decide ((⟨ak,al,(j:Int)⟩:DEnd)∈out[i])=b:=⟨_,rfl⟩
  rw[hbv]at HC
  have HV:=Lib.hid (HV.out.trans hbv)
  have N3:=Lib.hid n3
  rw[hwb]
  clear hwb n1 n2 n3 n4 b4 hg B2 U2 HH hoi hoiL HO HRi hfew hbv
  refine wp_region_noPanic ?_
  refine wp_region_held_drew (S:=(fun w'=>Upd No wb w')) (by kernel_rfl) ?_ (fun hHeld=> ?_)
  ·(first|exact(Upd.refl No _).drew|exact hHeld.trans hu3)
  refine wpK 0 rfl ?_
  refine wpK 1 rfl ?_
  refine wpK 2 rfl ?_
  refine wpK 3 rfl ?_
  refine wpK 4 rfl ?_
  refine wpK 5 rfl ?_
  refine wpK 6 rfl ?_
  refine wpK 7 rfl ?_
  refine wpK 8 rfl ?_
  refine wpR [9] ?_
  refine wpC rfl (fun K hK=> ?_) AllReadyH.nil
  go_simp
  (first
  |(go_at_call 51;refine(HC.out _ hHeld).mono ?_;rintro e w3 ⟨rfl,hu3⟩))
  try (go_wp2_with fail)
  refine hK.out _ _ ?_ (fun hHeld=> ?_)
  ·(first|exact(Upd.refl No _).drew|exact hHeld.trans hu3)
  clear hK K
  try simp only[Act.put,sT,sS,sZ]
  refine wpK 10 rfl ?_
  refine wpK 11 rfl ?_
  refine wpK 12 rfl ?_
  refine wpK 13 rfl ?_
  refine wpK 14 rfl ?_
  refine wpD (NoPanic.normal ?_)
  all_goals
   have HU:=Lib.hid (N3.out.trans hHeld)
   clear hHeld g0 a0 oi e0 e1 e2
   go_wp2
   go_ret
   exact⟨by rw[HV.out];rfl,HU.out⟩
 ·have hR':Zd out.length a=false:=by simpa using hR
  rw[hR']at hn
  have HV:=Lib.hid (show ZaU out a=false by unfold ZaU;rw[hR'];rfl)
  obtain⟨af,at',ak,al⟩:=a
  unfold HArc.cells at*
  clear hR hR' h u0 bA
  go_enter Try.func37,Try.ntmps37
  go_wp2_with fail
  refine(hn.out).mono ?_
  rintro e w1 ⟨rfl,hu1⟩
  have hu:=Lib.hid (U0.out.trans hu1)
  clear hu1 hn
  go_wp2
  go_ret
  exact⟨by rw[HV.out];rfl,hu.out⟩
end
end Go.Proofs.Ytfcefnpnomlgbaa
