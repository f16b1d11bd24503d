/- Digraphs: how one lies in memory; what reads it. -/
import Derived.Test.YtfcefnpnomlgbaaMaw
namespace Go.Proofs.Ytfcefnpnomlgbaa
set_option linter.unusedSimpArgs false
set_option linter.unusedVariables false
open Go.RowKit
structure HArc where
 f:Int
 t:Int
 kind:Int
 label:Int
deriving DecidableEq
def HArc.cells (a:HArc):List Value:=[.int .i64 a.f,.int .i64 a.t,.int .i64 a.kind,.int .i64 a.label]
def RowsD (w:World) (base:Nat) (hs:List Value) (ls:List (List DEnd)):Prop:=
 hs.length=ls.length∧∀i (hi:i<ls.length),∃A c,hs[i]? =some (.slice A ls[i].length c)∧w.ownsRow base 72 3 (.slice A ls[i].length c) ls[i].length (ls[i].map DEnd.cells).flatten
def ApartD (hs:List Value):Prop:=∀(i j:Nat) (v u:Value) (k:Nat),hs[i]? =some v→hs[j]? =some u→i≠j→Own v k→¬Own u k
structure GIs (w:World) (G:Nat→Prop) (g:Nat) (out inn:List (List DEnd)) (n:Int) (ob ib:Nat) (oh ih:List Value) (base:Nat):Prop where
 blk:Blk w g 69 [.slice (some ⟨ob,0,none⟩) out.length out.length,.slice (some ⟨ib,0,none⟩) out.length out.length,.int .i64 n]
 ob_:Blk w ob 66 oh
 ib_:Blk w ib 66 ih
 len:inn.length=out.length
 ro:RowsD w base oh out
 ri:RowsD w base ih inn
 dis:ApartD (oh++ih)
 low:g<base∧ob<base∧ib<base
 ne:g≠ob∧g≠ib∧ob≠ib
 inG:G g∧G ob∧G ib∧∀v∈oh++ih,∀k,Own v k→G k
 old:∀k,G k→k<w.heap.size
 few:out.length≤4096∧(∀l∈out,l.length≤100000)∧(∀l∈inn,l.length≤100000)
theorem RowsD.upd {S:Nat→Prop} {w w':World} {base:Nat} {hs:List Value} {ls:List (List DEnd)} (h:RowsD w base hs ls) (k:Upd S w w') (hn:∀v∈hs,∀i,Own v i→¬S i):RowsD w' base hs ls:=
 ⟨h.1,fun i hi=>by
  obtain⟨A,c,h1,h2⟩:=h.2 i hi
  exact⟨A,c,h1,Zb h2 k (fun j e=>hn _ (List.mem_of_getElem? h1) j e)⟩⟩
theorem GIs.upd {S:Nat→Prop} {w w':World} {G:Nat→Prop} {g:Nat} {out inn:List (List DEnd)} {n:Int} {ob ib:Nat} {oh ih:List Value} {base:Nat} (h:GIs w G g out inn n ob ib oh ih base) (k:Upd S w w') (hn:∀i,G i→¬S i):GIs w' G g out inn n ob ib oh ih base:=
 {h with
  blk:=h.blk.upd k (hn _ h.inG.1)
  ob_:=h.ob_.upd k (hn _ h.inG.2.1)
  ib_:=h.ib_.upd k (hn _ h.inG.2.2.1)
  ro:=h.ro.upd k fun v hv i e=>hn _ (h.inG.2.2.2 v (List.mem_append_left _ hv) i e)
  old:=fun i hi=>Nat.lt_of_lt_of_le (h.old i hi) k.size
  ri:=h.ri.upd k fun v hv i e=>hn _ (h.inG.2.2.2 v (List.mem_append_right _ hv) i e)}
section
variable {w:World} {G:Nat→Prop} {g:Nat} {out inn:List (List DEnd)} {n:Int} {ob ib:Nat} {oh ih:List Value} {base:Nat}
theorem Ze7 (h:GIs w G g out inn n ob ib oh ih base):Calls Try.prog 26 #[.pointer (some ⟨g,0,none⟩)] w fun e w'=>e= .returned (.int .i64 (out.length:Int))∧w=w':=by
 have c0:=h.blk.cell 0
 simp only[List.getElem?_cons_zero]at c0
 go_enter Try.func26,Try.ntmps26
 go_wp2
 go_ret
 exact⟨rfl,rfl⟩
def Zk (N:Nat) (i:Int):Bool:=decide (0≤i)&&decide (i<(N:Int))
theorem Zf1 (h:GIs w G g out inn n ob ib oh ih base) (i:Int):Calls Try.prog 34 #[.pointer (some ⟨g,0,none⟩),.int .i64 i] w fun e w'=>e= .returned (.bool (Zk out.length i))∧w=w':=by
 have HN:=Lib.hid (Ze7 h)
 by_cases h0:0≤i
 ·have HV:=Lib.hid (show Zk out.length i=decide (i<(out.length:Int)) by unfold Zk;rw[decide_eq_true h0];rfl)
  go_enter Try.func34,Try.ntmps34
  go_wp2_with fail
  refine(HN.out).mono ?_
  rintro e w1 ⟨rfl,rfl⟩
  go_wp2
  go_ret
  exact⟨by rw[HV.out];rfl,rfl⟩
 ·have HV:=Lib.hid (show Zk out.length i=false by unfold Zk;rw[decide_eq_false h0];rfl)
  have hb:decide (0≤i)=false:=decide_eq_false h0
  clear h0
  go_enter Try.func34,Try.ntmps34
  go_wp2
  go_ret
  exact⟨by rw[HV.out];rfl,rfl⟩
def Zc (N:Nat) (a:HArc):Bool:=Zk N a.f&&(Zk N a.t&&(decide (1≤a.kind)&&(decide (a.kind≤3)&&(decide (0≤a.label)&&decide (a.label≤1048575)))))
set_option maxRecDepth 100000 in
theorem Ze6 (h:GIs w G g out inn n ob ib oh ih base) (a:HArc):Calls Try.prog 36 #[.pointer (some ⟨g,0,none⟩),.agg a.cells.toArray] w fun e w'=>e= .returned (.bool (Zc out.length a))∧Upd No w w':=by
 obtain⟨af,at',ak,al⟩:=a
 unfold HArc.cells
 have u0:=(Upd.refl No w).alloc (.cells #[.int .i64 af,.int .i64 at',.int .i64 ak,.int .i64 al] 28)
 have hn:=fun i=>Zf1 (h.upd u0 (fun _ _=>id)) i
 obtain⟨b1,hb1⟩:∃b,Zk out.length af=b:=⟨_,rfl⟩
 obtain⟨b2,hb2⟩:∃b,Zk out.length at'=b:=⟨_,rfl⟩
 have hn1:=hn af
 have hn2:=hn at'
 rw[hb1]at hn1
 rw[hb2]at hn2
 have HN1:=Lib.hid hn1
 have HN2:=Lib.hid hn2
 have hv:Zc out.length ⟨af,at',ak,al⟩=(b1&&(b2&&(decide (1≤ak)&&(decide (ak≤3)&&(decide (0≤al)&&decide (al≤1048575)))))):=by unfold Zc;rw[hb1,hb2]
 have HV:=Lib.hid hv
 clear hn hn1 hn2 hb1 hb2 hv
 cases b1
 ·go_enter Try.func36,Try.ntmps36
  go_wp2_with fail
  refine(HN1.out).mono ?_
  rintro e w1 ⟨rfl,rfl⟩
  go_wp2
  go_ret
  exact⟨by rw[HV.out];rfl,u0⟩
 ·cases b2
  ·go_enter Try.func36,Try.ntmps36
   go_wp2_with fail
   refine(HN1.out).mono ?_
   rintro e w1 ⟨rfl,rfl⟩
   go_wp2_with fail
   refine(HN2.out).mono ?_
   rintro e w1 ⟨rfl,rfl⟩
   go_wp2
   go_ret
   exact⟨by rw[HV.out];rfl,u0⟩
  ·by_cases k1:1≤ak
   ·by_cases k2:ak≤3
    ·by_cases k3:0≤al
     ·have HW:=Lib.hid (show Zc out.length ⟨af,at',ak,al⟩=decide (al≤1048575) by rw[HV.out,decide_eq_true k1,decide_eq_true k2,decide_eq_true k3];rfl)
      go_enter Try.func36,Try.ntmps36
      go_wp2_with fail
      refine(HN1.out).mono ?_
      rintro e w1 ⟨rfl,rfl⟩
      go_wp2_with fail
      refine(HN2.out).mono ?_
      rintro e w1 ⟨rfl,rfl⟩
      go_wp2
      go_ret
      exact⟨by rw[HW.out];rfl,u0⟩
     ·have HW:=Lib.hid (show Zc out.length ⟨af,at',ak,al⟩=false by rw[HV.out,decide_eq_false k3];simp)
      have kb:decide (0≤al)=false:=decide_eq_false k3
      clear k3
      go_enter Try.func36,Try.ntmps36
      go_wp2_with fail
      refine(HN1.out).mono ?_
      rintro e w1 ⟨rfl,rfl⟩
      go_wp2_with fail
      refine(HN2.out).mono ?_
      rintro e w1 ⟨rfl,rfl⟩
      go_wp2
      go_ret
      exact⟨by rw[HW.out];rfl,u0⟩
    ·have HW:=Lib.hid (show Zc out.length ⟨af,at',ak,al⟩=false by rw[HV.out,decide_eq_false k2];simp)
     have kb:decide (ak≤3)=false:=decide_eq_false k2
     clear k2
     go_enter Try.func36,Try.ntmps36
     go_wp2_with fail
     refine(HN1.out).mono ?_
     rintro e w1 ⟨rfl,rfl⟩
     go_wp2_with fail
     refine(HN2.out).mono ?_
     rintro e w1 ⟨rfl,rfl⟩
     go_wp2
     go_ret
     exact⟨by rw[HW.out];rfl,u0⟩
   ·have HW:=Lib.hid (show Zc out.length ⟨af,at',ak,al⟩=false by rw[HV.out,decide_eq_false k1];simp)
    have kb:decide (1≤ak)=false:=decide_eq_false k1
    clear k1
    go_enter Try.func36,Try.ntmps36
    go_wp2_with fail
    refine(HN1.out).mono ?_
    rintro e w1 ⟨rfl,rfl⟩
    go_wp2_with fail
    refine(HN2.out).mono ?_
    rintro e w1 ⟨rfl,rfl⟩
    go_wp2
    go_ret
    exact⟨by rw[HW.out];rfl,u0⟩
end
def ZG (a:HArc):DEnd:=⟨a.kind,a.label,a.t⟩
def inE (a:HArc):DEnd:=⟨a.kind,a.label,a.f⟩
theorem Upd.blk {S:Nat→Prop} {w w':World} {g:Nat} {t:TypeId} {cs:List Value} (k:Upd S w w') (h:Blk w g t cs) (hn:¬S g):Blk w' g t cs:=h.upd k hn
def ZaK (a b:Nat):Nat→Prop:=fun i=>i=a∨i=b
set_option maxRecDepth 100000 in
set_option maxHeartbeats 1000000 in
theorem Zf4 (w:World) (a:HArc):Calls Try.prog 38 #[.agg a.cells.toArray] w fun e w'=>e= .returned (.tuple #[.agg (ZG a).cells.toArray,.agg (inE a).cells.toArray])∧Upd No w w':=by
 obtain⟨af,at',ak,al⟩:=a
 unfold HArc.cells
 obtain⟨wb,hwb⟩:∃wb,((w.alloc (.cells #[.int .i64 af,.int .i64 at',.int .i64 ak,.int .i64 al] 28)).alloc (.cells #[.int .i64 0,.int .i64 0,.int .i64 0] 72)).alloc (.cells #[.int .i64 0,.int .i64 0,.int .i64 0] 72)=wb:=⟨_,rfl⟩
 have u0:Upd No w wb:=by rw[←hwb];exact(((Upd.refl No w).alloc _).alloc _).alloc _
 have bA:Blk wb w.heap.size 28 [.int .i64 af,.int .i64 at',.int .i64 ak,.int .i64 al]:=by rw[←hwb];exact((Blk.new w 28 [.int .i64 af,.int .i64 at',.int .i64 ak,.int .i64 al]).alloc _).alloc _
 have h1:Blk wb (w.heap.size+1) 72 [.int .i64 0,.int .i64 0,.int .i64 0]:=by
  rw[←hwb]
  have:=(Blk.new (w.alloc (.cells #[.int .i64 af,.int .i64 at',.int .i64 ak,.int .i64 al] 28)) 72 [.int .i64 0,.int .i64 0,.int .i64 0]).alloc (.cells #[.int .i64 0,.int .i64 0,.int .i64 0] 72)
  simpa using this
 have h2:Blk wb (w.heap.size+1+1) 72 [.int .i64 0,.int .i64 0,.int .i64 0]:=by
  rw[←hwb]
  have:=Blk.new ((w.alloc (.cells #[.int .i64 af,.int .i64 at',.int .i64 ak,.int .i64 al] 28)).alloc (.cells #[.int .i64 0,.int .i64 0,.int .i64 0] 72)) 72 [.int .i64 0,.int .i64 0,.int .i64 0]
  simpa using this
 have hn:¬ZaK (w.heap.size+1) (w.heap.size+1+1) w.heap.size:=by unfold ZaK;omega
 have a0:∀W,Upd (ZaK (w.heap.size+1) (w.heap.size+1+1)) wb W→W.cell? ⟨w.heap.size,0,none⟩=some (.int .i64 af):=fun W hW=>(bA.upd hW hn).cell 0
 have a1:∀W,Upd (ZaK (w.heap.size+1) (w.heap.size+1+1)) wb W→W.cell? ⟨w.heap.size,1,none⟩=some (.int .i64 at'):=fun W hW=>(bA.upd hW hn).cell 1
 have a2:∀W,Upd (ZaK (w.heap.size+1) (w.heap.size+1+1)) wb W→W.cell? ⟨w.heap.size,2,none⟩=some (.int .i64 ak):=fun W hW=>(bA.upd hW hn).cell 2
 have a3:∀W,Upd (ZaK (w.heap.size+1) (w.heap.size+1+1)) wb W→W.cell? ⟨w.heap.size,3,none⟩=some (.int .i64 al):=fun W hW=>(bA.upd hW hn).cell 3
 have HWB:=Lib.hid hwb
 have U0:=Lib.hid u0
 clear hwb u0 bA hn
 have H1:=Lib.hid h1
 have H2:=Lib.hid h2
 clear h1 h2
 go_enter Try.func38,Try.ntmps38
 go_wp2
 rw[HWB.out]
 refine wp_region_noPanic ?_
 refine wp_region_held_drew (S:=(fun w'=>Upd (ZaK (w.heap.size+1) (w.heap.size+1+1)) wb w')) (by kernel_rfl) ?_ (fun hHeld=> ?_)
 ·(first|exact(Upd.refl _ _).drew|exact hHeld.trans hq)
 refine wpK 0 rfl ?_
 refine wpK 1 rfl ?_
 refine wpK 2 rfl ?_
 refine wpK 3 rfl ?_
 refine wpK 4 rfl ?_
 refine wpK 5 rfl ?_
 refine wpK 6 rfl ?_
 refine wpK 7 rfl ?_
 refine wpK 8 rfl ?_
 refine wpK 9 rfl ?_
 refine wpK 10 rfl ?_
 refine wpK 11 rfl ?_
 refine wpK 12 rfl ?_
 refine wpK 13 rfl ?_
 refine wpR [14] ?_
 refine wpC rfl (fun K hK=> ?_) AllReadyH.nil
 (first
  |(refine Zaz rfl rfl (g:=w.heap.size+1) (cells:=[.int .i64 ak,.int .i64 al,.int .i64 at']) rfl rfl (show Blk _ _ 72 [.int .i64 0,.int .i64 0,.int .i64 0] from H1.out) (by kernel_rfl) rfl rfl ?_;intro w5 hb5 hu5;have H1:=Lib.hid hb5;have H2:=Lib.hid (hu5.blk (g:=w.heap.size+1+1) (t:=72) (cs:=[.int .i64 0,.int .i64 0,.int .i64 0]) (by exact H2.out) (by unfold One;omega));have hq:=hu5.mono (T:=ZaK (w.heap.size+1) (w.heap.size+1+1)) (fun _ _ e=>Or.inl e);clear hb5 hu5)
  |(refine Zaz rfl rfl (g:=w.heap.size+1+1) (cells:=[.int .i64 ak,.int .i64 al,.int .i64 af]) rfl rfl (show Blk _ _ 72 [.int .i64 0,.int .i64 0,.int .i64 0] from H2.out) (by kernel_rfl) rfl rfl ?_;intro w5 hb5 hu5;have H2:=Lib.hid hb5;have H1:=Lib.hid (hu5.blk (g:=w.heap.size+1) (t:=72) (cs:=[.int .i64 ak,.int .i64 al,.int .i64 at']) (by exact H1.out) (by unfold One;omega));have hq:=hu5.mono (T:=ZaK (w.heap.size+1) (w.heap.size+1+1)) (fun _ _ e=>Or.inr e);clear hb5 hu5))
 refine hK.out _ _ ?_ (fun hHeld=> ?_)
 ·(first|exact(Upd.refl _ _).drew|exact hHeld.trans hq)
 clear hK K
 try simp only[Act.put,sT,sS,sZ]
 refine wpR [15] ?_
 refine wpC rfl (fun K hK=> ?_) AllReadyH.nil
 (first
  |(refine Zaz rfl rfl (g:=w.heap.size+1) (cells:=[.int .i64 ak,.int .i64 al,.int .i64 at']) rfl rfl (show Blk _ _ 72 [.int .i64 0,.int .i64 0,.int .i64 0] from H1.out) (by kernel_rfl) rfl rfl ?_;intro w5 hb5 hu5;have H1:=Lib.hid hb5;have H2:=Lib.hid (hu5.blk (g:=w.heap.size+1+1) (t:=72) (cs:=[.int .i64 0,.int .i64 0,.int .i64 0]) (by exact H2.out) (by unfold One;omega));have hq:=hu5.mono (T:=ZaK (w.heap.size+1) (w.heap.size+1+1)) (fun _ _ e=>Or.inl e);clear hb5 hu5)
  |(refine Zaz rfl rfl (g:=w.heap.size+1+1) (cells:=[.int .i64 ak,.int .i64 al,.int .i64 af]) rfl rfl (show Blk _ _ 72 [.int .i64 0,.int .i64 0,.int .i64 0] from H2.out) (by kernel_rfl) rfl rfl ?_;intro w5 hb5 hu5;have H2:=Lib.hid hb5;have H1:=Lib.hid (hu5.blk (g:=w.heap.size+1) (t:=72) (cs:=[.int .i64 ak,.int .i64 al,.int .i64 at']) (by exact H1.out) (by unfold One;omega));have hq:=hu5.mono (T:=ZaK (w.heap.size+1) (w.heap.size+1+1)) (fun _ _ e=>Or.inr e);clear hb5 hu5))
 refine hK.out _ _ ?_ (fun hHeld=> ?_)
 ·(first|exact(Upd.refl _ _).drew|exact hHeld.trans hq)
 clear hK K
 try simp only[Act.put,sT,sS,sZ]
 refine wpD (NoPanic.normal ?_)
 all_goals
  have r0:=H1.out.cell 0
  have r1:=H1.out.cell 1
  have r2:=H1.out.cell 2
  have s0:=H2.out.cell 0
  have s1:=H2.out.cell 1
  have s2:=H2.out.cell 2
  simp only[List.getElem?_cons_zero,List.getElem?_cons_succ]at r0 r1 r2 s0 s1 s2
  have HU:=Lib.hid (U0.out.then_ hHeld (fun i e=>by unfold ZaK at e;exact .inr (by omega)))
  clear hHeld a0 a1 a2 a3
  go_wp2
  refine bodyPost_ret (v:= .tuple #[.agg #[.int .i64 ak,.int .i64 al,.int .i64 at'],.agg #[.int .i64 ak,.int .i64 al,.int .i64 af]]) (by simp[results,Try.results38,go_sem,r0,r1,r2,s0,s1,s2]) rfl ?_
  exact⟨rfl,HU.out⟩
end Go.Proofs.Ytfcefnpnomlgbaa
/- Digraphs:whether an arc is there. -/
namespace Go.Proofs.Ytfcefnpnomlgbaa
set_option linter.unusedSimpArgs false
set_option linter.unusedVariables false
open Go.RowKit
theorem Zae {N:Nat} {a:HArc} (h:Zc N a=true):∃i j:Nat,a.f=(i:Int)∧a.t=(j:Int)∧i<N∧j<N:=by
 simp only[Zc,Zk,Bool.and_eq_true,decide_eq_true_eq]at h
 exact⟨a.f.toNat,a.t.toNat,by omega,by omega,by omega,by omega⟩
theorem Zd1 (w0 w2:World) (h:Upd No w0 w2) (t:TypeId) (c1 c2:List Value) (wb:World) (e:(w2.alloc (.cells c1.toArray t)).alloc (.cells c2.toArray t)=wb):Blk wb w2.heap.size t c1∧Blk wb (w2.heap.size+1) t c2∧Upd No w0 wb∧Upd No w2 wb:=by
 subst e
 refine⟨(Blk.new w2 t c1).alloc _,?_,(h.alloc _).alloc _,((Upd.refl No w2).alloc _).alloc _⟩
 have:=Blk.new (w2.alloc (.cells c1.toArray t)) t c2
 simpa using this
def ZaV (out:List (List DEnd)) (a:HArc):Bool:=Zc out.length a&&(match out[a.f.toNat]? with|some l=>decide (ZG a∈l)|none=>false)
section
variable {w:World} {G:Nat→Prop} {g:Nat} {out inn:List (List DEnd)} {n:Int} {ob ib:Nat} {oh ih:List Value} {base:Nat}
set_option maxRecDepth 100000 in
theorem ZhC (h:GIs w G g out inn n ob ib oh ih base) (hr:∀l∈out,ZQ l) (a:HArc):Calls Try.prog 37 #[.pointer (some ⟨g,0,none⟩),.agg a.cells.toArray] w fun e w'=>e= .returned (.bool (ZaV out a))∧Upd No w w':=by
 have u0:=(Upd.refl No w).alloc (.cells a.cells.toArray 28)
 have hn:=Lib.hid (Ze6 (h.upd u0 (fun _ _=>id)) a)
 have bA:=Lib.hid (Blk.new w 28 a.cells)
 have HH:=Lib.hid h
 have U0:=Lib.hid u0
 by_cases hR:Zc out.length a=true
 ·obtain⟨i,j,e1,e2,hi,hj⟩:=Zae hR
  have hv:ZaV out a=decide (ZG a∈out[i]):=by
   unfold ZaV;rw[hR,e1];simp[List.getElem?_eq_getElem hi]
  have HV:=Lib.hid hv
  have HE:=Lib.hid (fun(W:World)=>Zf4 W a)
  rw[hR]at hn
  obtain⟨A,c,hoi,hown⟩:=h.ro.2 i hi
  have HO:=Lib.hid hown
  have HRi:=Lib.hid (hr _ (List.getElem_mem hi))
  have hfew:=h.few.2.1 _ (List.getElem_mem hi)
  obtain⟨af,at',ak,al⟩:=a
  subst e1 e2
  unfold HArc.cells at*
  simp only[ZG,inE,DEnd.cells]at HE
  clear hR hv h u0 hr hown
  go_enter Try.func37,Try.ntmps37
  go_wp2_with fail
  refine(hn.out).mono ?_
  rintro e w1 ⟨rfl,hu1⟩
  have b1:=bA.out.upd hu1 id
  have c0:=b1.cell 0
  have c1:=b1.cell 1
  have c2:=b1.cell 2
  have c3:=b1.cell 3
  simp only[List.getElem?_cons_zero,List.getElem?_cons_succ]at c0 c1 c2 c3
  have U1:=Lib.hid (U0.out.trans hu1)
  have B1:=Lib.hid b1
  clear b1 hu1 hn bA U0
  go_wp2_with fail
  refine((HE.out _)).mono ?_
  rintro e w2 ⟨rfl,hu2⟩
  have U2:=Lib.hid (U1.out.trans hu2)
  have B2:=Lib.hid (B1.out.upd hu2 id)
  clear B1 U1 hu2 c0 c1 c2 c3 HE
  go_wp2
  obtain⟨wb,hwb⟩:∃wb,(w2.alloc (.cells #[.int .i64 ak,.int .i64 al,.int .i64 (j:Int)] 72)).alloc (.cells #[.int .i64 ak,.int .i64 al,.int .i64 (i:Int)] 72)=wb:=⟨_,rfl⟩
  obtain⟨n1,n2,n3,n4⟩:=Zd1 w w2 U2.out 72 [.int .i64 ak,.int .i64 al,.int .i64 (j:Int)] [.int .i64 ak,.int .i64 al,.int .i64 (i:Int)] wb hwb
  have b4:=B2.out.upd n4 id
  have hg:=HH.out.upd n3 (fun _ _=>id)
  have hoiL:=List.getElem?_eq_some_iff.1 hoi
  have g0:∀W,Upd No wb W→W.cell? ⟨g,0,none⟩=some (.slice (some ⟨ob,0,none⟩) out.length out.length):=fun W hW=>(hg.blk.upd hW id).cell 0
  have a0:∀W,Upd No wb W→W.cell? ⟨w.heap.size,0,none⟩=some (.int .i64 (i:Int)):=fun W hW=>(b4.upd hW id).cell 0
  have oi:∀W,Upd No wb W→W.cell? ⟨ob,i,none⟩=some (.slice A out[i].length c):=fun W hW=>by rw[(hg.ob_.upd hW id).cell i];exact hoi
  have e0:∀W,Upd No wb W→W.cell? ⟨w2.heap.size,0,none⟩=some (.int .i64 ak):=fun W hW=>(n1.upd hW id).cell 0
  have e1:∀W,Upd No wb W→W.cell? ⟨w2.heap.size,1,none⟩=some (.int .i64 al):=fun W hW=>(n1.upd hW id).cell 1
  have e2:∀W,Upd No wb W→W.cell? ⟨w2.heap.size,2,none⟩=some (.int .i64 (j:Int)):=fun W hW=>(n1.upd hW id).cell 2
  have HC:=Lib.hid (fun(W:World) (hW:Upd No wb W)=>Zf3 _ W A c out[i] ⟨ak,al,(j:Int)⟩ (Zg out[i] ⟨ak,al,(j:Int)⟩) ((ZbJ (Zb HO.out n3 (fun _ _=>id))).upd hW (fun _ _=>id)) (by omega) (Z7 HRi.out _))
  have k1:(0:Int)≤(i:Int):=Int.natCast_nonneg _
  have k2:(i:Int)<(out.length:Int):=by omega
  rw[Zb7 HRi.out]at HC
  unfold DEnd.cells at HC
  obtain⟨bv,hbv⟩:∃b,decide ((⟨ak,al,(j:Int)⟩:DEnd)∈out[i])=b:=⟨_,rfl⟩
  rw[hbv]at HC
  have HV:=Lib.hid (HV.out.trans hbv)
  have N3:=Lib.hid n3
  rw[hwb]
  clear hwb n1 n2 n3 n4 b4 hg B2 U2 HH hoi hoiL HO HRi hfew hbv
  refine wp_region_noPanic ?_
  refine wp_region_held_drew (S:=(fun w'=>Upd No wb w')) (by kernel_rfl) ?_ (fun hHeld=> ?_)
  ·(first|exact(Upd.refl No _).drew|exact hHeld.trans hu3)
  refine wpK 0 rfl ?_
  refine wpK 1 rfl ?_
  refine wpK 2 rfl ?_
  refine wpK 3 rfl ?_
  refine wpK 4 rfl ?_
  refine wpK 5 rfl ?_
  refine wpK 6 rfl ?_
  refine wpK 7 rfl ?_
  refine wpK 8 rfl ?_
  refine wpR [9] ?_
  refine wpC rfl (fun K hK=> ?_) AllReadyH.nil
  go_simp
  (first
  |(go_at_call 51;refine(HC.out _ hHeld).mono ?_;rintro e w3 ⟨rfl,hu3⟩))
  try (go_wp2_with fail)
  refine hK.out _ _ ?_ (fun hHeld=> ?_)
  ·(first|exact(Upd.refl No _).drew|exact hHeld.trans hu3)
  clear hK K
  try simp only[Act.put,sT,sS,sZ]
  refine wpK 10 rfl ?_
  refine wpK 11 rfl ?_
  refine wpK 12 rfl ?_
  refine wpK 13 rfl ?_
  refine wpK 14 rfl ?_
  refine wpD (NoPanic.normal ?_)
  all_goals
   have HU:=Lib.hid (N3.out.trans hHeld)
   clear hHeld g0 a0 oi e0 e1 e2
   go_wp2
   go_ret
   exact⟨by rw[HV.out];rfl,HU.out⟩
 ·have hR':Zc out.length a=false:=by simpa using hR
  rw[hR']at hn
  have HV:=Lib.hid (show ZaV out a=false by unfold ZaV;rw[hR'];rfl)
  obtain⟨af,at',ak,al⟩:=a
  unfold HArc.cells at*
  clear hR hR' h u0 bA
  go_enter Try.func37,Try.ntmps37
  go_wp2_with fail
  refine(hn.out).mono ?_
  rintro e w1 ⟨rfl,hu1⟩
  have hu:=Lib.hid (U0.out.trans hu1)
  clear hu1 hn
  go_wp2
  go_ret
  exact⟨by rw[HV.out];rfl,hu.out⟩
end
end Go.Proofs.Ytfcefnpnomlgbaa
/- Digraphs:a row of ends put in another's place. -/
namespace Go.Proofs.Ytfcefnpnomlgbaa
set_option linter.unusedSimpArgs false
set_option linter.unusedVariables false
open Go.RowKit
theorem ZbZ {P:Program} {ops:Array Oper} {o:Oper} {a:Act} {W:World} {K:Act→World→Prop} {Q:Exit→Act→World→Prop} {E:Prop} (hgd:o.guard=none) {ty:TypeId} {x y:Operand} (ho:o.op= .store ty x y)
  {g i:Nat} {t:TypeId} {old:List Value} {A:Option Addr} {n c:Nat} (hx:a.eval x= .pointer (some ⟨g,i,none⟩)) (hy:a.eval y= .slice A n c) (hb:Blk W g t old) (hi:(P.info? ty).map (·.size)=some 1) (hlt:i<old.length)
  (h:∀w',Blk w' g t (old.set i (.slice A n c))→Upd (One g) W w'→K (a.put o.dst undef) w'):if Region.wanted o (yielded ops a.tmps)=true then Oper.wp P o a W K Q else E:=by
 rw[if_pos (by simp[Region.wanted,hgd])]
 have hst:=run_storeCells_at P g i t [.slice A n c] 0 old.toArray W hb (by simp;omega) (by simp[Value.oneCell'])
 have he:old.take i++[.slice A n c]++old.drop (i+1)=old.set i (.slice A n c):=by
  rw[List.set_eq_take_append_cons_drop,if_pos hlt];simp
 simp only[Nat.add_zero,List.length_cons,List.length_nil,Nat.zero_add,he]at hst
 cases hq:P.info? ty with
 |none=>simp[hq]at hi
 |some z=>
  have hs:z.size=1:=by simpa[hq]using hi
  have hrun:(storeVar ty ⟨g,i,none⟩ (.slice A n c)).run P W= .ok () (W.setRow g (old.set i (.slice A n c)).toArray):=by
   simp[storeVar,sizeOf,typeInfo,hq,Value.cells,hs,hst]
  unfold Oper.wp execOp
  simp only[ho,hx,hy,Instr.storeAt,Instr.sureAddr,Sem.run_bind,Sem.run_pure,Result.andThen_ok,hrun]
  exact h _ (Zbu hb) (Zbg _ _)
theorem RowsD.set {w w':World} {base:Nat} {hs:List Value} {ls:List (List DEnd)} (h:RowsD w base hs ls) (hA:ApartD hs) {i:Nat} (hi:i<ls.length) {v:Value} (hv:hs[i]? =some v) {S:Nat→Prop} (hu:Upd S w w')
  (hS:∀(j:Nat) u k,hs[j]? =some u→j≠i→Own u k→¬S k) {l:List DEnd} {A:Option Addr} {c:Nat} (hn:w'.ownsRow base 72 3 (.slice A l.length c) l.length (l.map DEnd.cells).flatten):
  RowsD w' base (hs.set i (.slice A l.length c)) (ls.set i l):=by
 refine⟨by simpa using h.1,fun j hj=> ?_⟩
 have hj':j<ls.length:=by simpa using hj
 by_cases e:j=i
 ·subst e
  refine⟨A,c,?_,?_⟩
  ·rw[List.getElem?_set_self (by rw[h.1];exact hi)];simp
  ·simpa using hn
 ·obtain⟨B,d,h1,h2⟩:=h.2 j hj'
  have hl:(ls.set i l)[j]=ls[j]:=by rw[List.getElem_set_ne (fun x=>e x.symm)]
  rw[hl]
  refine⟨B,d,?_,Zb h2 hu (fun k hk=>hS j _ k h1 e hk)⟩
  rw[List.getElem?_set_ne (fun x=>e x.symm)];exact h1
theorem ApartD.set {hs:List Value} (h:ApartD hs) {N i:Nat} {v u:Value} (hv:hs[i]? =some v) (hlt:∀x∈hs,∀k,Own x k→k<N) (hu:∀k,Own u k→Own v k∨N≤k):ApartD (hs.set i u):=by
 intro a b x y k ha hb hab hx hy
 have hil:=(List.getElem?_eq_some_iff.1 hv).1
 have mem:∀{j:Nat} {z:Value},hs[j]? =some z→z∈hs:=fun e=>List.mem_of_getElem? e
 by_cases e1:a=i
 ·subst e1
  rw[List.getElem?_set_self hil]at ha
  rw[List.getElem?_set_ne hab]at hb
  cases ha
  rcases hu k hx with h1|h1
  ·exact h _ _ _ _ _ hv hb hab h1 hy
  ·have:=hlt _ (mem hb) _ hy;omega
 ·rw[List.getElem?_set_ne (fun x=>e1 x.symm)]at ha
  by_cases e2:b=i
  ·subst e2
   rw[List.getElem?_set_self hil]at hb
   cases hb
   rcases hu k hy with h1|h1
   ·exact h _ _ _ _ _ ha hv hab hx h1
   ·have:=hlt _ (mem ha) _ hx;omega
  ·rw[List.getElem?_set_ne (fun x=>e2 x.symm)]at hb
   exact h _ _ _ _ _ ha hb hab hx hy
def GG (w w':World) (G:Nat→Prop):Nat→Prop:=fun k=>G k∨(w.heap.size≤k∧k<w'.heap.size)
theorem Grew.own {w:World} {v u:Value} (h:Grew w v u):∀k,Own u k→Own v k∨w.heap.size≤k:=by
 intro k hk
 unfold Own at*
 rcases h with h|⟨j,h1,h2⟩
 ·left;rw[←h];exact hk
 ·right;rw[h1]at hk;cases hk;exact h2
section
variable {w w':World} {G:Nat→Prop} {g:Nat} {out inn:List (List DEnd)} {n:Int} {ob ib:Nat} {oh ih:List Value} {base:Nat}
theorem GIs.rowO (h:GIs w G g out inn n ob ib oh ih base) {i:Nat} {l':List DEnd} {v:Value} {A4:Option Addr} {c4:Nat} (hi:i<out.length) (hv:oh[i]? =some v)
  (hu:Upd (fun k=>Own v k∨k=ob) w w') (hB:Blk w' ob 66 (oh.set i (.slice A4 l'.length c4))) (ho:w'.ownsRow base 72 3 (.slice A4 l'.length c4) l'.length (l'.map DEnd.cells).flatten)
  (hg:Grew w v (.slice A4 l'.length c4)) (hf:l'.length≤100000):GIs w' (GG w w' G) g (out.set i l') inn n ob ib (oh.set i (.slice A4 l'.length c4)) ih base:=by
 have hlow:∀x∈oh++ih,∀k,Own x k→base≤k:=by
  intro x hx k hk
  rcases List.mem_append.1 hx with hx|hx
  ·obtain⟨j,hj,rfl⟩:=List.getElem_of_mem hx
   obtain⟨B,d,h1,h2⟩:=h.ro.2 j (by rw[←h.ro.1];exact hj)
   rw[List.getElem?_eq_getElem hj]at h1
   rw[Option.some.inj h1]at hk
   exact(h2.lt _ hk).1
  ·obtain⟨j,hj,rfl⟩:=List.getElem_of_mem hx
   obtain⟨B,d,h1,h2⟩:=h.ri.2 j (by rw[←h.ri.1];exact hj)
   rw[List.getElem?_eq_getElem hj]at h1
   rw[Option.some.inj h1]at hk
   exact(h2.lt _ hk).1
 have hl:=h.low
 have hvg:Own v g→False:=fun e=>by have:=hlow v (List.mem_append_left _ (List.mem_of_getElem? hv)) g e;omega
 have hvi:Own v ib→False:=fun e=>by have:=hlow v (List.mem_append_left _ (List.mem_of_getElem? hv)) ib e;omega
 have hset:(oh.set i (.slice A4 l'.length c4))++ih=(oh++ih).set i (.slice A4 l'.length c4):=by
  rw[List.set_append_left];rw[h.ro.1];exact hi
 have hva:(oh++ih)[i]? =some v:=by rw[List.getElem?_append_left (by rw[h.ro.1];exact hi)];exact hv
 have hold:∀x∈oh++ih,∀k,Own x k→k<w.heap.size:=fun x hx k hk=>h.old k (h.inG.2.2.2 x hx k hk)
 constructor
 case blk=>simpa using h.blk.upd hu (fun e=>e.elim hvg h.ne.1)
 case ob_=>exact hB
 case ib_=>exact h.ib_.upd hu (fun e=>e.elim hvi (fun e=>h.ne.2.2 e.symm))
 case len=>simpa using h.len
 case ro=>
  refine h.ro.set (fun a b x y k ha hb=>h.dis a b x y k ?_ ?_) hi hv hu ?_ ho
  ·rw[List.getElem?_append_left (List.getElem?_eq_some_iff.1 ha).1];exact ha
  ·rw[List.getElem?_append_left (List.getElem?_eq_some_iff.1 hb).1];exact hb
  ·rintro j u k hj hne hk (e|e)
   ·exact h.dis j i u v k (by rw[List.getElem?_append_left (List.getElem?_eq_some_iff.1 hj).1];exact hj) hva hne hk e
   ·have:=hlow u (List.mem_append_left _ (List.mem_of_getElem? hj)) k hk;omega
 case ri=>
  refine h.ri.upd hu ?_
  rintro u hx k hk (e|e)
  ·obtain⟨j,hj,rfl⟩:=List.getElem_of_mem hx
   refine h.dis (oh.length+j) i _ v k (by rw[List.getElem?_append_right (by omega)];simp[hj]) hva (by rw[h.ro.1];omega) hk e
  ·have:=hlow u (List.mem_append_right _ hx) k hk;omega
 case dis=>rw[hset];exact h.dis.set hva hold hg.own
 case low=>exact h.low
 case ne=>exact h.ne
 case inG=>
  refine⟨.inl h.inG.1,.inl h.inG.2.1,.inl h.inG.2.2.1,?_⟩
  rw[hset]
  intro x hx k hk
  rcases List.mem_or_eq_of_mem_set hx with hx|rfl
  ·exact .inl (h.inG.2.2.2 x hx k hk)
  ·rcases hg.own k hk with e|e
   ·exact .inl (h.inG.2.2.2 v (List.mem_of_getElem? hva) k e)
   ·exact .inr ⟨e,(ho.lt _ hk).2⟩
 case old=>
  rintro k (hk|hk)
  ·exact Nat.lt_of_lt_of_le (h.old k hk) hu.size
  ·exact hk.2
 case few=>
  refine⟨by simpa using h.few.1,fun x hx=> ?_,h.few.2.2⟩
  rcases List.mem_or_eq_of_mem_set hx with hx|rfl
  ·exact h.few.2.1 x hx
  ·exact hf
theorem GIs.rowI (h:GIs w G g out inn n ob ib oh ih base) {i:Nat} {l':List DEnd} {v:Value} {A4:Option Addr} {c4:Nat} (hi:i<inn.length) (hv:ih[i]? =some v)
  (hu:Upd (fun k=>Own v k∨k=ib) w w') (hB:Blk w' ib 66 (ih.set i (.slice A4 l'.length c4))) (ho:w'.ownsRow base 72 3 (.slice A4 l'.length c4) l'.length (l'.map DEnd.cells).flatten)
  (hg:Grew w v (.slice A4 l'.length c4)) (hf:l'.length≤100000):GIs w' (GG w w' G) g out (inn.set i l') n ob ib oh (ih.set i (.slice A4 l'.length c4)) base:=by
 have hlow:∀x∈oh++ih,∀k,Own x k→base≤k:=by
  intro x hx k hk
  rcases List.mem_append.1 hx with hx|hx
  ·obtain⟨j,hj,rfl⟩:=List.getElem_of_mem hx
   obtain⟨B,d,h1,h2⟩:=h.ro.2 j (by rw[←h.ro.1];exact hj)
   rw[List.getElem?_eq_getElem hj]at h1
   rw[Option.some.inj h1]at hk
   exact(h2.lt _ hk).1
  ·obtain⟨j,hj,rfl⟩:=List.getElem_of_mem hx
   obtain⟨B,d,h1,h2⟩:=h.ri.2 j (by rw[←h.ri.1];exact hj)
   rw[List.getElem?_eq_getElem hj]at h1
   rw[Option.some.inj h1]at hk
   exact(h2.lt _ hk).1
 have hl:=h.low
 have hvg:Own v g→False:=fun e=>by have:=hlow v (List.mem_append_right _ (List.mem_of_getElem? hv)) g e;omega
 have hvi:Own v ob→False:=fun e=>by have:=hlow v (List.mem_append_right _ (List.mem_of_getElem? hv)) ob e;omega
 have hset:oh++(ih.set i (.slice A4 l'.length c4))=(oh++ih).set (oh.length+i) (.slice A4 l'.length c4):=by
  rw[List.set_append_right _ _ (by omega)];simp
 have hva:(oh++ih)[oh.length+i]? =some v:=by rw[List.getElem?_append_right (by omega)];simpa using hv
 have hold:∀x∈oh++ih,∀k,Own x k→k<w.heap.size:=fun x hx k hk=>h.old k (h.inG.2.2.2 x hx k hk)
 constructor
 case blk=>simpa using h.blk.upd hu (fun e=>e.elim hvg h.ne.2.1)
 case ob_=>exact h.ob_.upd hu (fun e=>e.elim hvi h.ne.2.2)
 case ib_=>exact hB
 case len=>simpa using h.len
 case ri=>
  refine h.ri.set (fun a b x y k ha hb hab=>h.dis (oh.length+a) (oh.length+b) x y k ?_ ?_ (by omega)) hi hv hu ?_ ho
  ·rw[List.getElem?_append_right (by omega)];simpa using ha
  ·rw[List.getElem?_append_right (by omega)];simpa using hb
  ·rintro j u k hj hne hk (e|e)
   ·exact h.dis (oh.length+j) (oh.length+i) u v k (by rw[List.getElem?_append_right (by omega)];simpa using hj) hva (by omega) hk e
   ·have:=hlow u (List.mem_append_right _ (List.mem_of_getElem? hj)) k hk;omega
 case ro=>
  refine h.ro.upd hu ?_
  rintro u hx k hk (e|e)
  ·obtain⟨j,hj,rfl⟩:=List.getElem_of_mem hx
   refine h.dis j (oh.length+i) _ v k (by rw[List.getElem?_append_left hj];simp[hj]) hva (by omega) hk e
  ·have:=hlow u (List.mem_append_left _ hx) k hk;omega
 case dis=>rw[hset];exact h.dis.set hva hold hg.own
 case low=>exact h.low
 case ne=>exact h.ne
 case inG=>
  refine⟨.inl h.inG.1,.inl h.inG.2.1,.inl h.inG.2.2.1,?_⟩
  rw[hset]
  intro x hx k hk
  rcases List.mem_or_eq_of_mem_set hx with hx|rfl
  ·exact .inl (h.inG.2.2.2 x hx k hk)
  ·rcases hg.own k hk with e|e
   ·exact .inl (h.inG.2.2.2 v (List.mem_of_getElem? hva) k e)
   ·exact .inr ⟨e,(ho.lt _ hk).2⟩
 case old=>
  rintro k (hk|hk)
  ·exact Nat.lt_of_lt_of_le (h.old k hk) hu.size
  ·exact hk.2
 case few=>
  refine⟨h.few.1,h.few.2.1,fun x hx=> ?_⟩
  rcases List.mem_or_eq_of_mem_set hx with hx|rfl
  ·exact h.few.2.2 x hx
  ·exact hf
end
end Go.Proofs.Ytfcefnpnomlgbaa
