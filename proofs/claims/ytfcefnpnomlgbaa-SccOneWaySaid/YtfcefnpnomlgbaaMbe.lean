/- Digraphs: the nodes of some ends. -/
import Derived.Laws.StructEq
import Derived.Test.YtfcefnpnomlgbaaMba
import Derived.Test.YtfcefnpnomlgbaaMbd
namespace Go.Proofs.Ytfcefnpnomlgbaa
set_option linter.unusedSimpArgs false
set_option linter.unusedVariables false
open Go.RowKit
def Zam (mask:Int) (l:List DEnd):List Int:=(l.filter fun e=>Z8 mask e.kind).map (·.node)
def ZaS (mask:Int) (l:List DEnd):List Int:=Lib.compact (ZC (Zam mask l))
theorem Zey {mask:Int} {l:List DEnd} {k:Nat} {x:DEnd} (hk:k<l.length) (hx:l[k]=x) (hr:Z8 mask x.kind=true):Zam mask (l.take (k+1))=Zam mask (l.take k)++[x.node]:=by
 subst hx
 unfold Zam
 rw[List.take_succ_eq_append_getElem hk,List.filter_append,List.map_append,List.filter_cons_of_pos (by rw[hr])]
 rfl
theorem Zfb {mask:Int} {l:List DEnd} {k:Nat} {x:DEnd} (hk:k<l.length) (hx:l[k]=x) (hr:Z8 mask x.kind=false):Zam mask (l.take (k+1))=Zam mask (l.take k):=by
 subst hx
 unfold Zam
 rw[List.take_succ_eq_append_getElem hk,List.filter_append,List.map_append,List.filter_cons_of_neg (by rw[hr];decide)]
 simp
theorem Zgo (w:World) (mask kind:Int) (h1:1≤kind) (h2:kind≤3):Calls Try.prog 49 #[.int .i64 mask,.int .i64 kind] w fun e w'=>e= .returned (.bool (Z8 mask kind))∧Upd No w w':=
 (dof w mask kind h1 h2).mono fun _ _ h=>⟨h.1,h.2▸Upd.refl No w⟩
set_option maxRecDepth 100000 in
set_option maxHeartbeats 1000000 in
theorem ZgF (F:Nat→Prop) (w:World) (mask:Int) (A:Option Addr) (c:Nat) (l:List DEnd) (h:DEnds F w A l) (hkd:∀e∈l,1≤e.kind∧e.kind≤3) (hl:l.length≤1000000):
  Calls Try.prog 35 #[.slice A l.length c,.int .i64 mask] w (ZaX w (ZaS mask l)):=by
 go_enter Try.func35,Try.ntmps35
 go_wp2
 go_loopg [5,10] l.length (fun gk s i wr=>∃(k:Nat) (A5:Option Addr) (c5:Nat) (xs:List Int),k+gk=l.length∧i= .int .i64 k∧s= .slice A5 xs.length c5∧Hid (xs=Zam mask (l.take k))∧xs.length≤k∧
  wr.ownsRow w.heap.size 3 1 (.slice A5 xs.length c5) xs.length (xs.map (Value.int .i64))∧Upd No w wr)
 case atStart=>exact⟨0,none,0,[],by omega,rfl,rfl,Lib.hid (by simp[Zam]),by simp,World.ownsRow_nil _ _ _ _,Upd.refl _ _⟩
 case round=>
  obtain⟨k,A5,c5,xs,hgk,rfl,rfl,hxs,hxl,hown,hu⟩:=hrel
  by_cases hlt:k<l.length
  ·obtain⟨ad,hAd,q0,q1,q2⟩:=(h.upd hu (fun _ _=>id)).at_ hlt
   obtain⟨hk1,hk2⟩:=hkd _ (List.getElem_mem hlt)
   obtain⟨x,hx⟩:∃x,l[k]=x:=⟨_,rfl⟩
   rw[hx]at q0 q1 q2 hk1 hk2
   subst hAd
   have X:=Lib.hid hx
   clear hx
   have b1:(0:Int)≤(k:Int):=Int.natCast_nonneg _
   have b2:(k:Int)<(l.length:Int):=by omega
   have uA:=(Upd.refl No wr).alloc (.cells #[.int .i64 x.kind,.int .i64 x.label,.int .i64 x.node] 72)
   have bo:=Blk.new wr 72 [.int .i64 x.kind,.int .i64 x.label,.int .i64 x.node]
   have hown1:=Zb hown uA (fun _ _=>id)
   have g0:=bo.cell 0
   simp only[List.getElem?_cons_zero]at g0
   have hof:=Lib.hid (fun W=>Zgo W mask x.kind hk1 hk2)
   cases hr:Z8 mask x.kind
   ·rw[hr]at hof
    have HS:=Lib.hid (Zfb hlt X.out hr)
    clear hr
    go_wp2_with fail
    refine(hof.out _).mono ?_
    rintro e w1 ⟨rfl,hu1⟩
    have Hu1:=Lib.hid ((hu.trans uA).trans hu1)
    have hown2:=Zb hown1 hu1 (fun _ _=>id)
    clear hown1 uA hu1
    go_wp2
    go_roundg (gk-1)
    case measure=>omega
    case rel=>exact⟨k+1,A5,c5,xs,by omega,by go_num,rfl,Lib.hid (by rw[HS.out,hxs.out]),by omega,hown2,Hu1.out⟩
   ·rw[hr]at hof
    have HS:=Lib.hid (Zey hlt X.out hr)
    clear hr
    go_wp2_with fail
    refine(hof.out _).mono ?_
    rintro e w1 ⟨rfl,hu1⟩
    have bo1:=bo.upd hu1 id
    have g1:=bo1.cell 2
    simp only[List.getElem?_cons_zero,List.getElem?_cons_succ]at g1
    have hown2:=Zb hown1 hu1 (fun _ _=>id)
    have hz1:=(uA.trans hu1).size
    have hz0:=hu.size
    have Hu1:=Lib.hid ((hu.trans uA).trans hu1)
    clear hown1 uA hu1
    go_wp2_with (at_builtin;refine Za4 rfl rfl ZfQ (v:= .slice A5 xs.length c5) (cells:=[.int .i64 x.node]) (by rfl) rfl hown2 rfl rfl (by omega) (by omega) (by omega) ?_;intro g' c' w2 hown3 hu3 hg3 hlt3)
    go_roundg (gk-1)
    case measure=>omega
    case rel=>
     refine⟨k+1,some ⟨g',0,none⟩,c',xs++[x.node],by omega,by go_num,by simp,Lib.hid (by rw[HS.out,hxs.out]),by simp;omega,by simpa using hown3,Hu1.out.then_ hu3 fun i e=> ?_⟩
     exact .inr (hown2.lt i e).1
  ·obtain rfl:k=l.length:=by omega
   have Hx:=Lib.hid (show xs=Zam mask l by rw[hxs.out,List.take_length])
   clear hxs
   have hsl:=Lib.hid (ZcF xs)
   have Hk:=Lib.hid (show Lib.compact (ZC xs)=ZaS mask l by rw[Hx.out];rfl)
   go_wp2_with fail
   refine(ZfB _ _ A5 c5 xs hown (by omega)).mono ?_
   rintro e w1 ⟨rfl,ho1,hu1⟩
   have ho1':w1.ownsRow w.heap.size 3 1 (.slice A5 (ZC xs).length c5) (ZC xs).length ((ZC xs).map (Value.int .i64)):=by rw[hsl.out];exact ho1
   have hic:=Zfm w1 w.heap.size A5 c5 (ZC xs) ho1' (by rw[hsl.out];omega)
   rw[Hk.out,hsl.out]at hic
   have Hic:=Lib.hid hic
   have hge:=Lib.hid (show∀i,Own (.slice A5 xs.length c5) i→w.heap.size≤i from fun i e=>(hown.lt i e).1)
   clear hic ho1 ho1' hown
   go_wp2_with fail
   refine(Hic.out).mono ?_
   rintro e w2 ⟨rfl,ho2,hu2⟩
   go_wp2
   go_ret
   exact⟨A5,c5,rfl,ho2,(hu.then_ hu1 fun i e=> .inr (hge.out i e)).then_ hu2 fun i e=> .inr (hge.out i e)⟩
end Go.Proofs.Ytfcefnpnomlgbaa
/- Digraphs:the nodes next to one,and those ahead of it. -/
namespace Go.Proofs.Ytfcefnpnomlgbaa
set_option linter.unusedSimpArgs false
set_option linter.unusedVariables false
open Go.RowKit
def Zax (mask:Int) (ls:List (List DEnd)) (i:Int):List Int:=match (if Zi ls.length i then ls[i.toNat]? else none)with|some l=>ZaS mask l|none=>[]
def Zcl (ls:List (List DEnd)):Prop:=∀l∈ls,∀e∈l,1≤e.kind∧e.kind≤3
theorem Zdk (w w':World) (u:Upd No w w'):ZaX w [] (.returned (.slice none 0 0)) w':=⟨none,0,rfl,World.ownsRow_nil _ _ _ _,u⟩
section
variable {w:World} {G:Nat→Prop} {g:Nat} {out inn:List (List DEnd)} {n:Int} {ob ib:Nat} {oh ih:List Value} {base:Nat}
set_option maxRecDepth 100000 in
theorem ZgG (h:GIs w G g out inn n ob ib oh ih base) (hk:Zcl out) (i mask:Int):Calls Try.prog 19 #[.pointer (some ⟨g,0,none⟩),.int .i64 i,.int .i64 mask] w (ZaX w (Zax mask out i)):=by
 have HN:=Lib.hid (Zei h i)
 by_cases hb:Zi out.length i=true
 ·have hb':=hb
  simp only[Zi,Bool.and_eq_true,decide_eq_true_eq]at hb'
  obtain⟨j,rfl⟩:∃j:Nat,i=(j:Int):=⟨i.toNat,by omega⟩
  have hj:j<out.length:=by omega
  obtain⟨A,c,hoi,hown⟩:=h.ro.2 j hj
  have hv:=Lib.hid (show Zax mask out (j:Int)=ZaS mask out[j] by unfold Zax;rw[if_pos hb];simp[List.getElem?_eq_getElem hj])
  have c0:=h.blk.cell 0
  have c1:w.cell? ⟨ob,j,none⟩=some (.slice A out[j].length c):=by rw[h.ob_.cell j];exact hoi
  have hc:=Lib.hid (ZgF _ w mask A c out[j] (Za3 hown) (hk _ (List.getElem_mem hj)) (Nat.le_trans (h.few.2.1 _ (List.getElem_mem hj)) (by omega)))
  have k1:(0:Int)≤(j:Int):=Int.natCast_nonneg _
  have k2:(j:Int)<(out.length:Int):=by omega
  simp only[List.getElem?_cons_zero]at c0
  rw[hb]at HN
  clear hb hb' hoi hown h hk
  go_enter Try.func19,Try.ntmps19
  go_wp2_with fail
  refine(HN.out).mono ?_
  rintro e w1 ⟨rfl,rfl⟩
  go_wp2_with fail
  refine(hc.out).mono ?_
  rintro e w2 ⟨A2,c2,rfl,ho,hu⟩
  go_wp2
  go_ret
  rw[hv.out]
  exact⟨A2,c2,rfl,ho,hu⟩
 ·have hb':Zi out.length i=false:=by simpa using hb
  have hv:=Lib.hid (show Zax mask out i=[] by unfold Zax;rw[if_neg hb])
  rw[hb']at HN
  clear hb hb' h hk
  go_enter Try.func19,Try.ntmps19
  go_wp2_with fail
  refine(HN.out).mono ?_
  rintro e w1 ⟨rfl,rfl⟩
  go_wp2
  go_ret
  rw[hv.out]
  exact Zdk _ _ (Upd.refl _ _)
end
end Go.Proofs.Ytfcefnpnomlgbaa
/- Digraphs:the arcs that go out of a node. -/
namespace Go.Proofs.Ytfcefnpnomlgbaa
set_option linter.unusedSimpArgs false
set_option linter.unusedVariables false
open Go.RowKit
theorem ZdM:SlT Try.prog 22 28 4 32:=SlT.mk_ Try.underlying22 (z:= .agg #[.int .i64 0,.int .i64 0,.int .i64 0,.int .i64 0]) (by kernel_rfl) rfl (by omega)
def ZF (l:List HArc):List Value:=(l.map HArc.cells).flatten
def Zep (w:World) (l:List HArc) (e:Ending) (w':World):Prop:=∃A c,e= .returned (.slice A l.length c)∧w'.ownsRow w.heap.size 28 4 (.slice A l.length c) l.length (ZF l)∧Upd No w w'
def ZO (mask i:Int) (l:List DEnd):List HArc:=(l.filter fun e=>Z8 mask e.kind).map fun e=>⟨i,e.node,e.kind,e.label⟩
theorem Zez {mask i:Int} {l:List DEnd} {k:Nat} {x:DEnd} (hk:k<l.length) (hx:l[k]=x) (hr:Z8 mask x.kind=true):ZO mask i (l.take (k+1))=ZO mask i (l.take k)++[⟨i,x.node,x.kind,x.label⟩]:=by
 subst hx
 unfold ZO
 rw[List.take_succ_eq_append_getElem hk,List.filter_append,List.map_append,List.filter_cons_of_pos (by rw[hr])]
 rfl
theorem Zfc {mask i:Int} {l:List DEnd} {k:Nat} {x:DEnd} (hk:k<l.length) (hx:l[k]=x) (hr:Z8 mask x.kind=false):ZO mask i (l.take (k+1))=ZO mask i (l.take k):=by
 subst hx
 unfold ZO
 rw[List.take_succ_eq_append_getElem hk,List.filter_append,List.map_append,List.filter_cons_of_neg (by rw[hr];decide)]
 simp
theorem ZeU (l:List HArc):(ZF l).length=l.length*4:=by
 unfold ZF
 induction l with
 |nil=>rfl
 |cons a l ih=>simp only[List.map_cons,List.flatten_cons,List.length_append,List.length_cons,ih];simp[HArc.cells];omega
def Zap (mask:Int) (ls:List (List DEnd)) (i:Int):List HArc:=match (if Zi ls.length i then ls[i.toNat]? else none)with|some l=>ZO mask i l|none=>[]
section
variable {w:World} {G:Nat→Prop} {g:Nat} {out inn:List (List DEnd)} {n:Int} {ob ib:Nat} {oh ih:List Value} {base:Nat}
set_option maxRecDepth 100000 in
set_option maxHeartbeats 1000000 in
theorem Zg4 (h:GIs w G g out inn n ob ib oh ih base) (hkd:Zcl out) (i mask:Int):Calls Try.prog 33 #[.pointer (some ⟨g,0,none⟩),.int .i64 i,.int .i64 mask] w (Zep w (Zap mask out i)):=by
 have HN:=Lib.hid (Zei h i)
 by_cases hb:Zi out.length i=true
 ·have hb':=hb
  simp only[Zi,Bool.and_eq_true,decide_eq_true_eq]at hb'
  obtain⟨j,rfl⟩:∃j:Nat,i=(j:Int):=⟨i.toNat,by omega⟩
  have hj:j<out.length:=by omega
  obtain⟨A,c,hoi,hown0⟩:=h.ro.2 j hj
  have hv:=Lib.hid (show Zap mask out (j:Int)=ZO mask j out[j] by unfold Zap;rw[if_pos hb];simp[List.getElem?_eq_getElem hj])
  have c0:=h.blk.cell 0
  have c1:w.cell? ⟨ob,j,none⟩=some (.slice A out[j].length c):=by rw[h.ob_.cell j];exact hoi
  have hde:=Za3 hown0
  have hkl:=hkd _ (List.getElem_mem hj)
  have hl:out[j].length≤1000000:=Nat.le_trans (h.few.2.1 _ (List.getElem_mem hj)) (by omega)
  obtain⟨l,hlq⟩:∃l,out[j]=l:=⟨_,rfl⟩
  rw[hlq]at hde hkl hl hv c1
  have k1:(0:Int)≤(j:Int):=Int.natCast_nonneg _
  have k2:(j:Int)<(out.length:Int):=by omega
  simp only[List.getElem?_cons_zero]at c0
  rw[hb]at HN
  clear hb hb' hoi hown0 h hkd hlq
  go_enter Try.func33,Try.ntmps33
  go_wp2_with fail
  refine(HN.out).mono ?_
  rintro e w1 ⟨rfl,rfl⟩
  go_wp2
  go_loopg [7,23] l.length (fun gk s i wr=>∃(k:Nat) (A5:Option Addr) (c5:Nat) (xs:List HArc),k+gk=l.length∧i= .int .i64 k∧s= .slice A5 xs.length c5∧Hid (xs=ZO mask j (l.take k))∧xs.length≤k∧
   wr.ownsRow w.heap.size 28 4 (.slice A5 xs.length c5) xs.length (ZF xs)∧Upd No w wr)
  case atStart=>exact⟨0,none,0,[],by omega,rfl,rfl,Lib.hid (by simp[ZO]),by simp,World.ownsRow_nil _ _ _ _,Upd.refl _ _⟩
  case round=>
   obtain⟨k,A5,c5,xs,hgk,rfl,rfl,hxs,hxl,hown,hu⟩:=hrel
   by_cases hlt:k<l.length
   ·obtain⟨ad,hAd,q0,q1,q2⟩:=(hde.upd hu (fun _ _=>id)).at_ hlt
    obtain⟨hk1,hk2⟩:=hkl _ (List.getElem_mem hlt)
    obtain⟨x,hx⟩:∃x,l[k]=x:=⟨_,rfl⟩
    rw[hx]at q0 q1 q2 hk1 hk2
    subst hAd
    have X:=Lib.hid hx
    clear hx
    have b1:(0:Int)≤(k:Int):=Int.natCast_nonneg _
    have b2:(k:Int)<(l.length:Int):=by omega
    have uA:=(Upd.refl No wr).alloc (.cells #[.int .i64 x.kind,.int .i64 x.label,.int .i64 x.node] 72)
    have bo:=Blk.new wr 72 [.int .i64 x.kind,.int .i64 x.label,.int .i64 x.node]
    have hown1:=Zb hown uA (fun _ _=>id)
    have g0:=bo.cell 0
    simp only[List.getElem?_cons_zero]at g0
    have hof:=Lib.hid (fun W=>Zgo W mask x.kind hk1 hk2)
    cases hr:Z8 mask x.kind
    ·rw[hr]at hof
     have HS:=Lib.hid (Zfc (i:=(j:Int)) hlt X.out hr)
     clear hr
     go_wp2_with fail
     refine(hof.out _).mono ?_
     rintro e w1 ⟨rfl,hu1⟩
     have Hu1:=Lib.hid ((hu.trans uA).trans hu1)
     have hown2:=Zb hown1 hu1 (fun _ _=>id)
     clear hown1 uA hu1
     go_wp2
     go_roundg (gk-1)
     case measure=>omega
     case rel=>exact⟨k+1,A5,c5,xs,by omega,by go_num,rfl,Lib.hid (by rw[HS.out,hxs.out]),by omega,hown2,Hu1.out⟩
    ·rw[hr]at hof
     have HS:=Lib.hid (Zez (i:=(j:Int)) hlt X.out hr)
     clear hr
     go_wp2_with fail
     refine(hof.out _).mono ?_
     rintro e w1 ⟨rfl,hu1⟩
     have bo1:=bo.upd hu1 id
     have g1:=bo1.cell 0
     have g2:=bo1.cell 1
     have g3:=bo1.cell 2
     simp only[List.getElem?_cons_zero,List.getElem?_cons_succ]at g1 g2 g3
     have hown2:=Zb hown1 hu1 (fun _ _=>id)
     have hz1:=(uA.trans hu1).size
     have hz0:=hu.size
     have Hu1:=Lib.hid ((hu.trans uA).trans hu1)
     have HL:=Lib.hid (ZeU xs)
     clear hown1 uA hu1 bo1
     go_wp2_with (at_builtin;refine Za4 rfl rfl ZdM (v:= .slice A5 xs.length c5) (cells:=[.int .i64 (j:Int),.int .i64 x.node,.int .i64 x.kind,.int .i64 x.label]) (by rfl) rfl hown2 rfl rfl (by omega) (by omega) (by omega) ?_;intro g' c' w2 hown3 hu3 hg3 hlt3)
     go_roundg (gk-1)
     case measure=>omega
     case rel=>
      refine⟨k+1,some ⟨g',0,none⟩,c',xs++[⟨j,x.node,x.kind,x.label⟩],by omega,by go_num,by simp,Lib.hid (by rw[HS.out,hxs.out]),by simp;omega,by simpa[ZF,HArc.cells]using hown3,Hu1.out.then_ hu3 fun i e=> ?_⟩
      exact .inr (hown2.lt i e).1
   ·obtain rfl:k=l.length:=by omega
    have Hx:=Lib.hid (show ZO mask j l=xs by rw[hxs.out,List.take_length])
    clear hxs
    go_wp2
    go_ret
    rw[hv.out,Hx.out]
    exact⟨A5,c5,rfl,hown,hu⟩
 ·have hb':Zi out.length i=false:=by simpa using hb
  have hv:=Lib.hid (show Zap mask out i=[] by unfold Zap;rw[if_neg hb])
  rw[hb']at HN
  clear hb hb' h hkd
  go_enter Try.func33,Try.ntmps33
  go_wp2_with fail
  refine(HN.out).mono ?_
  rintro e w1 ⟨rfl,rfl⟩
  go_wp2
  go_ret
  rw[hv.out]
  exact⟨none,0,rfl,World.ownsRow_nil _ _ _ _,Upd.refl _ _⟩
end
end Go.Proofs.Ytfcefnpnomlgbaa
/- Digraphs:all arcs. -/
namespace Go.Proofs.Ytfcefnpnomlgbaa
set_option linter.unusedSimpArgs false
set_option linter.unusedVariables false
open Go.RowKit
def ZM (mask:Int) (out:List (List DEnd)):Nat→List HArc
 |0=>[]
 |k+1=>ZM mask out k++Zap mask out (k:Int)
theorem Zdh {mask:Int} {out:List (List DEnd)} (h:∀l∈out,l.length≤100000) (i:Int):(Zap mask out i).length≤100000:=by
 unfold Zap
 split
 ·next l hl=>
  split at hl
  ·have:=h l (List.mem_of_getElem? hl)
   unfold ZO
   rw[List.length_map]
   exact Nat.le_trans (List.length_filter_le _ _) this
  ·cases hl
 ·simp
theorem Zem {mask:Int} {out:List (List DEnd)} (h:∀l∈out,l.length≤100000) (k:Nat):(ZM mask out k).length≤k*100000:=by
 induction k with
 |zero=>simp[ZM]
 |succ k ih=>
  have:=Zdh (mask:=mask) h (k:Int)
  simp only[ZM,List.length_append]
  omega
theorem Zf9 (a:HArc):∀u∈a.cells,u.oneCell'=true:=by
 unfold HArc.cells
 simp[Value.oneCell']
theorem ZeT (l:List HArc):∀u∈ZF l,u.oneCell'=true:=by
 intro u hu
 unfold ZF at hu
 rw[List.mem_flatten]at hu
 obtain⟨r,hr,hu⟩:=hu
 rw[List.mem_map]at hr
 obtain⟨a,_,rfl⟩:=hr
 exact Zf9 a u hu
theorem ZbP (l:List HArc):∀r∈l.map HArc.cells,r.length=4:=by
 intro r hr
 rw[List.mem_map]at hr
 obtain⟨a,_,rfl⟩:=hr
 rfl
theorem Zft {w:World} {base:Nat} {A:Option Addr} {c:Nat} {l:List HArc} (h:w.ownsRow base 28 4 (.slice A l.length c) l.length (ZF l)):Src w A l.length 4 (ZF l):=by
 have h1:Recs (Own (.slice A l.length c)) w A 4 (l.map HArc.cells):=Recs.of_own (n:=l.length) (c:=c) (ZbP l) (by omega) h
 have h2:=h1.src (ZbP l)
 rw[List.length_map]at h2
 exact h2
theorem ZeA {w:World} {base:Nat} {e:TypeId} {size:Nat} {v:Value} {n:Nat} {xs:List Value} (h:w.ownsRow base e size v n xs):∃A c,v= .slice A n c:=by
 rcases h.2 with ⟨hv,hn⟩|⟨g,cap,cur,hv,_⟩
 ·exact⟨none,0,by rw[hv,hn]⟩
 ·exact⟨_,_,hv⟩
section
variable {w:World} {G:Nat→Prop} {g:Nat} {out inn:List (List DEnd)} {n:Int} {ob ib:Nat} {oh ih:List Value} {base:Nat}
set_option maxRecDepth 100000 in
set_option maxHeartbeats 1000000 in
theorem ZgK (h:GIs w G g out inn n ob ib oh ih base) (hkd:Zcl out) (mask:Int):Calls Try.prog 18 #[.pointer (some ⟨g,0,none⟩),.int .i64 mask] w (Zep w (ZM mask out out.length)):=by
 have HN:=Lib.hid (Zdy h)
 have HO:=Lib.hid (fun(W:World) (u:Upd No w W) (i:Int)=>Zg4 (h.upd u (fun _ _=>id)) hkd i mask)
 have HL:=Lib.hid (fun k=>Zem (mask:=mask) h.few.2.1 k)
 have HD:=Lib.hid (fun i=>Zdh (mask:=mask) h.few.2.1 i)
 have hfew:=h.few.1
 clear h hkd
 go_enter Try.func18,Try.ntmps18
 go_wp2_with fail
 refine(HN.out).mono ?_
 rintro e w1 ⟨rfl,rfl⟩
 go_wp2
 go_loopg [5,9] out.length (fun gk s i wr=>∃(k:Nat) (v:Value) (xs:List HArc),k+gk=out.length∧i= .int .i64 k∧s=v∧Hid (xs=ZM mask out k)∧
  wr.ownsRow w.heap.size 28 4 v xs.length (ZF xs)∧Upd No w wr)
 case atStart=>exact⟨0,.slice none 0 0,[],by omega,rfl,rfl,Lib.hid rfl,World.ownsRow_nil _ _ _ _,Upd.refl _ _⟩
 case round=>
  obtain⟨k,v,xs,hgk,rfl,rfl,hxs,hown,hu⟩:=hrel
  by_cases hlt:k<out.length
  ·have b1:(0:Int)≤(k:Int):=Int.natCast_nonneg _
   have b2:(k:Int)<(out.length:Int):=by omega
   have hl1:xs.length≤k*100000:=by rw[hxs.out];exact HL.out k
   have hl2:=HD.out (k:Int)
   obtain⟨ys,hys⟩:∃ys,Zap mask out (k:Int)=ys:=⟨_,rfl⟩
   rw[hys]at hl2
   have hO:=HO.out wr hu (k:Int)
   rw[hys]at hO
   have HOk:=Lib.hid hO
   have HY:=Lib.hid hys
   clear hO hys
   go_wp2_with fail
   refine(HOk.out).mono ?_
   rintro e w2 ⟨A2,c2,rfl,ho2,hu2⟩
   have hown2:=Zb hown hu2 (fun _ _=>id)
   have hs2:=Zft ho2
   have hz0:=hu.size
   have hz1:=hu2.size
   have Hu2:=Lib.hid (hu.trans hu2)
   have hge:=Lib.hid (fun i e=>(hown.lt i e).1)
   have H1:=Lib.hid (ZeT ys)
   clear hown hu2 ho2
   go_wp2_with (at_builtin;refine Zen rfl rfl ZdM (v:=u5) (n:=xs.length) (m:=ys.length) (xs:=ZF xs) (news:=ZF ys) (by rfl) rfl hown2 hs2 H1.out (by omega) (by omega) (by omega) ?_;intro v' w3 hown3 hu3 hg3)
   go_roundg (gk-1)
   case measure=>omega
   case rel=>
    refine⟨k+1,v',xs++ys,by omega,by go_num,rfl,Lib.hid (by rw[hxs.out,←HY.out];rfl),?_,Hu2.out.then_ hu3 fun i e=> .inr (hge.out i e)⟩
    rw[List.length_append]
    simpa[ZF]using hown3
  ·obtain rfl:k=out.length:=by omega
   obtain⟨A,c,rfl⟩:=ZeA hown
   go_wp2
   go_ret
   rw[←hxs.out]
   exact⟨A,c,rfl,hown,hu⟩
end
end Go.Proofs.Ytfcefnpnomlgbaa
/- Digraphs:lists of arcs;when two are one. -/
namespace Go.Proofs.Ytfcefnpnomlgbaa
set_option linter.unusedSimpArgs false
set_option linter.unusedVariables false
open Go.RowKit
def ArcsL (F:Nat→Prop) (w:World) (A:Option Addr) (l:List HArc):Prop:=Recs F w A 4 (l.map HArc.cells)
theorem ArcsL.at_ {F:Nat→Prop} {w:World} {A:Option Addr} {l:List HArc} (h:ArcsL F w A l) {k:Nat} (hk:k<l.length):∃ad,A=some ad∧
  w.cell? (ad.add (k*4))=some (.int .i64 l[k].f)∧w.cell? ⟨(ad.add (k*4)).block,(ad.add (k*4)).off+1,none⟩=some (.int .i64 l[k].t)∧
  w.cell? ⟨(ad.add (k*4)).block,(ad.add (k*4)).off+2,none⟩=some (.int .i64 l[k].kind)∧w.cell? ⟨(ad.add (k*4)).block,(ad.add (k*4)).off+3,none⟩=some (.int .i64 l[k].label):=by
 have hk':k<(l.map HArc.cells).length:=by simpa using hk
 obtain⟨ad,e,_,_,hc⟩:=Recs.at_ h hk'
 rw[List.getElem_map]at hc
 exact⟨ad,e,by simpa using hc 0 _ rfl,by simpa using hc 1 _ rfl,by simpa using hc 2 _ rfl,by simpa using hc 3 _ rfl⟩
theorem ArcsL.upd {F S:Nat→Prop} {w w':World} {A:Option Addr} {l:List HArc} (h:ArcsL F w A l) (k:Upd S w w') (hn:∀i,F i→¬S i):ArcsL F w' A l:=Recs.upd h k hn
end Go.Proofs.Ytfcefnpnomlgbaa
/- The document's digraph:the order of arcs;how many nodes there may be. -/
namespace Go.Proofs.Ytfcefnpnomlgbaa
set_option linter.unusedSimpArgs false
set_option linter.unusedVariables false
open Go.RowKit
def ZP (a b:HArc):Bool:=if a.f=b.f then (if a.kind=b.kind then (if a.label=b.label then decide (a.t<b.t) else decide (a.label<b.label)) else decide (a.kind<b.kind)) else decide (a.f<b.f)
end Go.Proofs.Ytfcefnpnomlgbaa
/- A nil digraph. -/
namespace Go.Proofs.Ytfcefnpnomlgbaa
set_option linter.unusedSimpArgs false
set_option linter.unusedVariables false
open Go.RowKit
theorem Zcy (w:World):Calls Try.prog 26 #[.pointer none] w fun e w'=>e= .returned (.int .i64 0)∧w=w':=by
 go_enter Try.func26,Try.ntmps26
 go_wp2
 go_ret
 exact⟨rfl,rfl⟩
theorem ZeN (w:World) (i:Int):Calls Try.prog 34 #[.pointer none,.int .i64 i] w fun e w'=>e= .returned (.bool false)∧w=w':=by
 have HN:=Lib.hid (Zcy w)
 by_cases h0:0≤i
 ·have hb:decide (i<0)=false:=decide_eq_false (by omega)
  go_enter Try.func34,Try.ntmps34
  go_wp2_with fail
  refine(HN.out).mono ?_
  rintro e w1 ⟨rfl,rfl⟩
  go_wp2
  go_ret
  exact⟨by simp,rfl⟩
 ·have hb:decide (0≤i)=false:=decide_eq_false h0
  clear h0
  go_enter Try.func34,Try.ntmps34
  go_wp2
  go_ret
  exact⟨rfl,rfl⟩
theorem Zgp (w:World) (i mask:Int):Calls Try.prog 19 #[.pointer none,.int .i64 i,.int .i64 mask] w (ZaX w []):=by
 have HN:=Lib.hid (ZeN w i)
 go_enter Try.func19,Try.ntmps19
 go_wp2_with fail
 refine(HN.out).mono ?_
 rintro e w1 ⟨rfl,rfl⟩
 go_wp2
 go_ret
 exact Zdk _ _ (Upd.refl _ _)
theorem Zf7 (w:World) (a:HArc):Calls Try.prog 36 #[.pointer none,.agg a.cells.toArray] w fun e w'=>e= .returned (.bool false)∧Upd No w w':=by
 have HN:=Lib.hid (fun W=>ZeN W a.f)
 have U0:=Lib.hid ((Upd.refl No w).alloc (.cells a.cells.toArray 28))
 unfold HArc.cells at*
 go_enter Try.func36,Try.ntmps36
 go_wp2_with fail
 refine(HN.out _).mono ?_
 rintro e w1 ⟨rfl,rfl⟩
 go_wp2
 go_ret
 exact⟨rfl,U0.out⟩
theorem ZgL (w:World) (a:HArc):Calls Try.prog 21 #[.pointer none,.agg a.cells.toArray] w fun e w'=>e= .returned (.int .i64 1)∧Upd No w w':=by
 have HN:=Lib.hid (fun W=>Zf7 W a)
 have U0:=Lib.hid ((Upd.refl No w).alloc (.cells a.cells.toArray 28))
 unfold HArc.cells at*
 go_enter Try.func21,Try.ntmps21
 go_wp2_with fail
 refine(HN.out _).mono ?_
 rintro e w1 ⟨rfl,hu⟩
 have HU:=Lib.hid (U0.out.trans hu)
 clear hu
 go_wp2
 go_ret
 exact⟨rfl,HU.out⟩
end Go.Proofs.Ytfcefnpnomlgbaa
