/- Digraphs: the nodes of some ends. -/
import Derived.Laws.StructEq
import Derived.Test.YtfcefnpnomlgbaaMaz
import Derived.Test.YtfcefnpnomlgbaaMbc
namespace Go.Proofs.Ytfcefnpnomlgbaa
set_option linter.unusedSimpArgs false
set_option linter.unusedVariables false
open Go.RowKit
def Zar (mask:Int) (l:List DEnd):List Int:=(l.filter fun e=>Zy mask e.kind).map (·.node)
def ZaT (mask:Int) (l:List DEnd):List Int:=Lib.compact (ZP (Zar mask l))
theorem ZeS {mask:Int} {l:List DEnd} {k:Nat} {x:DEnd} (hk:k<l.length) (hx:l[k]=x) (hr:Zy mask x.kind=true):Zar mask (l.take (k+1))=Zar mask (l.take k)++[x.node]:=by
 subst hx
 unfold Zar
 rw[List.take_succ_eq_append_getElem hk,List.filter_append,List.map_append,List.filter_cons_of_pos (by rw[hr])]
 rfl
theorem Zfw {mask:Int} {l:List DEnd} {k:Nat} {x:DEnd} (hk:k<l.length) (hx:l[k]=x) (hr:Zy mask x.kind=false):Zar mask (l.take (k+1))=Zar mask (l.take k):=by
 subst hx
 unfold Zar
 rw[List.take_succ_eq_append_getElem hk,List.filter_append,List.map_append,List.filter_cons_of_neg (by rw[hr];decide)]
 simp
theorem Zhz (w:World) (mask kind:Int) (h1:1≤kind) (h2:kind≤3):Calls Try.prog 49 #[.int .i64 mask,.int .i64 kind] w fun e w'=>e= .returned (.bool (Zy mask kind))∧Upd No w w':=
 (dof w mask kind h1 h2).mono fun _ _ h=>⟨h.1,h.2▸Upd.refl No w⟩
set_option maxRecDepth 100000 in
set_option maxHeartbeats 1000000 in
theorem Zg6 (F:Nat→Prop) (w:World) (mask:Int) (A:Option Addr) (c:Nat) (l:List DEnd) (h:DEnds F w A l) (hkd:∀e∈l,1≤e.kind∧e.kind≤3) (hl:l.length≤1000000):
  Calls Try.prog 35 #[.slice A l.length c,.int .i64 mask] w (Zad w (ZaT mask l)):=by
 go_enter Try.func35,Try.ntmps35
 go_wp2
 go_loopg [5,10] l.length (fun gk s i wr=>∃(k:Nat) (A5:Option Addr) (c5:Nat) (xs:List Int),k+gk=l.length∧i= .int .i64 k∧s= .slice A5 xs.length c5∧Hid (xs=Zar mask (l.take k))∧xs.length≤k∧
  wr.ownsRow w.heap.size 3 1 (.slice A5 xs.length c5) xs.length (xs.map (Value.int .i64))∧Upd No w wr)
 case atStart=>exact⟨0,none,0,[],by omega,rfl,rfl,Lib.hid (by simp[Zar]),by simp,World.ownsRow_nil _ _ _ _,Upd.refl _ _⟩
 case round=>
  obtain⟨k,A5,c5,xs,hgk,rfl,rfl,hxs,hxl,hown,hu⟩:=hrel
  by_cases hlt:k<l.length
  ·obtain⟨ad,hAd,q0,q1,q2⟩:=(h.upd hu (fun _ _=>id)).at_ hlt
   obtain⟨hk1,hk2⟩:=hkd _ (List.getElem_mem hlt)
   obtain⟨x,hx⟩:∃x,l[k]=x:=⟨_,rfl⟩
   rw[hx]at q0 q1 q2 hk1 hk2
   subst hAd
   have X:=Lib.hid hx
   clear hx
   have b1:(0:Int)≤(k:Int):=Int.natCast_nonneg _
   have b2:(k:Int)<(l.length:Int):=by omega
   have uA:=(Upd.refl No wr).alloc (.cells #[.int .i64 x.kind,.int .i64 x.label,.int .i64 x.node] 72)
   have bo:=Blk.new wr 72 [.int .i64 x.kind,.int .i64 x.label,.int .i64 x.node]
   have hown1:=Zb hown uA (fun _ _=>id)
   have g0:=bo.cell 0
   simp only[List.getElem?_cons_zero]at g0
   have hof:=Lib.hid (fun W=>Zhz W mask x.kind hk1 hk2)
   cases hr:Zy mask x.kind
   ·rw[hr]at hof
    have HS:=Lib.hid (Zfw hlt X.out hr)
    clear hr
    go_wp2_with fail
    refine(hof.out _).mono ?_
    rintro e w1 ⟨rfl,hu1⟩
    have Hu1:=Lib.hid ((hu.trans uA).trans hu1)
    have hown2:=Zb hown1 hu1 (fun _ _=>id)
    clear hown1 uA hu1
    go_wp2
    go_roundg (gk-1)
    case measure=>omega
    case rel=>exact⟨k+1,A5,c5,xs,by omega,by go_num,rfl,Lib.hid (by rw[HS.out,hxs.out]),by omega,hown2,Hu1.out⟩
   ·rw[hr]at hof
    have HS:=Lib.hid (ZeS hlt X.out hr)
    clear hr
    go_wp2_with fail
    refine(hof.out _).mono ?_
    rintro e w1 ⟨rfl,hu1⟩
    have bo1:=bo.upd hu1 id
    have g1:=bo1.cell 2
    simp only[List.getElem?_cons_zero,List.getElem?_cons_succ]at g1
    have hown2:=Zb hown1 hu1 (fun _ _=>id)
    have hz1:=(uA.trans hu1).size
    have hz0:=hu.size
    have Hu1:=Lib.hid ((hu.trans uA).trans hu1)
    clear hown1 uA hu1
    go_wp2_with (at_builtin;refine Zq rfl rfl Zgc (v:= .slice A5 xs.length c5) (cells:=[.int .i64 x.node]) (by rfl) rfl hown2 rfl rfl (by omega) (by omega) (by omega) ?_;intro g' c' w2 hown3 hu3 hg3 hlt3)
    go_roundg (gk-1)
    case measure=>omega
    case rel=>
     refine⟨k+1,some ⟨g',0,none⟩,c',xs++[x.node],by omega,by go_num,by simp,Lib.hid (by rw[HS.out,hxs.out]),by simp;omega,by simpa using hown3,Hu1.out.then_ hu3 fun i e=> ?_⟩
     exact .inr (hown2.lt i e).1
  ·obtain rfl:k=l.length:=by omega
   have Hx:=Lib.hid (show xs=Zar mask l by rw[hxs.out,List.take_length])
   clear hxs
   have hsl:=Lib.hid (ZcO xs)
   have Hk:=Lib.hid (show Lib.compact (ZP xs)=ZaT mask l by rw[Hx.out];rfl)
   go_wp2_with fail
   refine(ZfX _ _ A5 c5 xs hown (by omega)).mono ?_
   rintro e w1 ⟨rfl,ho1,hu1⟩
   have ho1':w1.ownsRow w.heap.size 3 1 (.slice A5 (ZP xs).length c5) (ZP xs).length ((ZP xs).map (Value.int .i64)):=by rw[hsl.out];exact ho1
   have hic:=ZfE w1 w.heap.size A5 c5 (ZP xs) ho1' (by rw[hsl.out];omega)
   rw[Hk.out,hsl.out]at hic
   have Hic:=Lib.hid hic
   have hge:=Lib.hid (show∀i,Own (.slice A5 xs.length c5) i→w.heap.size≤i from fun i e=>(hown.lt i e).1)
   clear hic ho1 ho1' hown
   go_wp2_with fail
   refine(Hic.out).mono ?_
   rintro e w2 ⟨rfl,ho2,hu2⟩
   go_wp2
   go_ret
   exact⟨A5,c5,rfl,ho2,(hu.then_ hu1 fun i e=> .inr (hge.out i e)).then_ hu2 fun i e=> .inr (hge.out i e)⟩
end Go.Proofs.Ytfcefnpnomlgbaa
/- Digraphs:the nodes next to one,and those ahead of it. -/
namespace Go.Proofs.Ytfcefnpnomlgbaa
set_option linter.unusedSimpArgs false
set_option linter.unusedVariables false
open Go.RowKit
def ZaC (mask:Int) (ls:List (List DEnd)) (i:Int):List Int:=match (if Zk ls.length i then ls[i.toNat]? else none)with|some l=>ZaT mask l|none=>[]
def Ze0 (ls:List (List DEnd)):Prop:=∀l∈ls,∀e∈l,1≤e.kind∧e.kind≤3
theorem ZdA (w w':World) (u:Upd No w w'):Zad w [] (.returned (.slice none 0 0)) w':=⟨none,0,rfl,World.ownsRow_nil _ _ _ _,u⟩
section
variable {w:World} {G:Nat→Prop} {g:Nat} {out inn:List (List DEnd)} {n:Int} {ob ib:Nat} {oh ih:List Value} {base:Nat}
set_option maxRecDepth 100000 in
theorem Zg7 (h:GIs w G g out inn n ob ib oh ih base) (hk:Ze0 out) (i mask:Int):Calls Try.prog 19 #[.pointer (some ⟨g,0,none⟩),.int .i64 i,.int .i64 mask] w (Zad w (ZaC mask out i)):=by
 have HN:=Lib.hid (Zf1 h i)
 by_cases hb:Zk out.length i=true
 ·have hb':=hb
  simp only[Zk,Bool.and_eq_true,decide_eq_true_eq]at hb'
  obtain⟨j,rfl⟩:∃j:Nat,i=(j:Int):=⟨i.toNat,by omega⟩
  have hj:j<out.length:=by omega
  obtain⟨A,c,hoi,hown⟩:=h.ro.2 j hj
  have hv:=Lib.hid (show ZaC mask out (j:Int)=ZaT mask out[j] by unfold ZaC;rw[if_pos hb];simp[List.getElem?_eq_getElem hj])
  have c0:=h.blk.cell 0
  have c1:w.cell? ⟨ob,j,none⟩=some (.slice A out[j].length c):=by rw[h.ob_.cell j];exact hoi
  have hc:=Lib.hid (Zg6 _ w mask A c out[j] (ZbJ hown) (hk _ (List.getElem_mem hj)) (Nat.le_trans (h.few.2.1 _ (List.getElem_mem hj)) (by omega)))
  have k1:(0:Int)≤(j:Int):=Int.natCast_nonneg _
  have k2:(j:Int)<(out.length:Int):=by omega
  simp only[List.getElem?_cons_zero]at c0
  rw[hb]at HN
  clear hb hb' hoi hown h hk
  go_enter Try.func19,Try.ntmps19
  go_wp2_with fail
  refine(HN.out).mono ?_
  rintro e w1 ⟨rfl,rfl⟩
  go_wp2_with fail
  refine(hc.out).mono ?_
  rintro e w2 ⟨A2,c2,rfl,ho,hu⟩
  go_wp2
  go_ret
  rw[hv.out]
  exact⟨A2,c2,rfl,ho,hu⟩
 ·have hb':Zk out.length i=false:=by simpa using hb
  have hv:=Lib.hid (show ZaC mask out i=[] by unfold ZaC;rw[if_neg hb])
  rw[hb']at HN
  clear hb hb' h hk
  go_enter Try.func19,Try.ntmps19
  go_wp2_with fail
  refine(HN.out).mono ?_
  rintro e w1 ⟨rfl,rfl⟩
  go_wp2
  go_ret
  rw[hv.out]
  exact ZdA _ _ (Upd.refl _ _)
end
end Go.Proofs.Ytfcefnpnomlgbaa
/- Digraphs:the arcs that go out of a node. -/
namespace Go.Proofs.Ytfcefnpnomlgbaa
set_option linter.unusedSimpArgs false
set_option linter.unusedVariables false
open Go.RowKit
theorem Zav:SlT Try.prog 22 28 4 32:=SlT.mk_ Try.underlying22 (z:= .agg #[.int .i64 0,.int .i64 0,.int .i64 0,.int .i64 0]) (by kernel_rfl) rfl (by omega)
def Zw (l:List HArc):List Value:=(l.map HArc.cells).flatten
def ZgQ (w:World) (l:List HArc) (e:Ending) (w':World):Prop:=∃A c,e= .returned (.slice A l.length c)∧w'.ownsRow w.heap.size 28 4 (.slice A l.length c) l.length (Zw l)∧Upd No w w'
theorem ZbM (l:List HArc):(Zw l).length=l.length*4:=by
 unfold Zw
 induction l with
 |nil=>rfl
 |cons a l ih=>simp only[List.map_cons,List.flatten_cons,List.length_append,List.length_cons,ih];simp[HArc.cells];omega
section
variable {w:World} {G:Nat→Prop} {g:Nat} {out inn:List (List DEnd)} {n:Int} {ob ib:Nat} {oh ih:List Value} {base:Nat}
end
end Go.Proofs.Ytfcefnpnomlgbaa
/- Digraphs:all arcs. -/
namespace Go.Proofs.Ytfcefnpnomlgbaa
set_option linter.unusedSimpArgs false
set_option linter.unusedVariables false
open Go.RowKit
theorem Zeh (l:List HArc):∀r∈l.map HArc.cells,r.length=4:=by
 intro r hr
 rw[List.mem_map]at hr
 obtain⟨a,_,rfl⟩:=hr
 rfl
section
variable {w:World} {G:Nat→Prop} {g:Nat} {out inn:List (List DEnd)} {n:Int} {ob ib:Nat} {oh ih:List Value} {base:Nat}
end
end Go.Proofs.Ytfcefnpnomlgbaa
/- Digraphs:lists of arcs;when two are one. -/
namespace Go.Proofs.Ytfcefnpnomlgbaa
set_option linter.unusedSimpArgs false
set_option linter.unusedVariables false
open Go.RowKit
def ArcsL (F:Nat→Prop) (w:World) (A:Option Addr) (l:List HArc):Prop:=Recs F w A 4 (l.map HArc.cells)
theorem ZgP (w:World) (a b c d a' b' c' d':Int):
  (Op.equalIn 10000 28 (.agg #[.int .i64 a,.int .i64 b,.int .i64 c,.int .i64 d]) (.agg #[.int .i64 a',.int .i64 b',.int .i64 c',.int .i64 d'])).run Try.prog w= .ok (decide ((⟨a,b,c,d⟩:HArc)=⟨a',b',c',d'⟩)) w:=by
 rw[run_equalIn_struct w _ _ _ _ (by kernel_rfl) (by kernel_rfl)]
 have hI:∀(w:World) (d:Nat) (x y:Int),(Op.equalIn (d+1) 3 (.int .i64 x) (.int .i64 y)).run Try.prog w= .ok (x==y) w:=fun w d x y=>run_equalIn_int w d _ _ _ x y Try.underlying3
 by_cases h1:a=a'<;>by_cases h2:b=b'<;>by_cases h3:c=c'<;>by_cases h4:d=d'<;>
  simp[Program.fieldsOf,Try.underlying28,Op.eqFields,part,hI,h1,h2,h3,h4,Result.andThen]
theorem Zgx (w:World) (x y:HArc):(binOp .neq 28 (.agg #[.int .i64 x.f,.int .i64 x.t,.int .i64 x.kind,.int .i64 x.label]) (.agg #[.int .i64 y.f,.int .i64 y.t,.int .i64 y.kind,.int .i64 y.label])).run Try.prog w= .ok (.bool (x != y)) w:=by
 obtain⟨a,b,c,d⟩:=x
 obtain⟨a',b',c',d'⟩:=y
 rw[run_neq_struct,ZgP]
 simp only[Result.andThen]
 by_cases h:(⟨a,b,c,d⟩:HArc)=⟨a',b',c',d'⟩<;>simp[h]
theorem ArcsL.at_ {F:Nat→Prop} {w:World} {A:Option Addr} {l:List HArc} (h:ArcsL F w A l) {k:Nat} (hk:k<l.length):∃ad,A=some ad∧
  w.cell? (ad.add (k*4))=some (.int .i64 l[k].f)∧w.cell? ⟨(ad.add (k*4)).block,(ad.add (k*4)).off+1,none⟩=some (.int .i64 l[k].t)∧
  w.cell? ⟨(ad.add (k*4)).block,(ad.add (k*4)).off+2,none⟩=some (.int .i64 l[k].kind)∧w.cell? ⟨(ad.add (k*4)).block,(ad.add (k*4)).off+3,none⟩=some (.int .i64 l[k].label):=by
 have hk':k<(l.map HArc.cells).length:=by simpa using hk
 obtain⟨ad,e,_,_,hc⟩:=Recs.at_ h hk'
 rw[List.getElem_map]at hc
 exact⟨ad,e,by simpa using hc 0 _ rfl,by simpa using hc 1 _ rfl,by simpa using hc 2 _ rfl,by simpa using hc 3 _ rfl⟩
theorem ArcsL.upd {F S:Nat→Prop} {w w':World} {A:Option Addr} {l:List HArc} (h:ArcsL F w A l) (k:Upd S w w') (hn:∀i,F i→¬S i):ArcsL F w' A l:=Recs.upd h k hn
end Go.Proofs.Ytfcefnpnomlgbaa
/- The document's digraph:arcs left out,arcs from a node. -/
namespace Go.Proofs.Ytfcefnpnomlgbaa
set_option linter.unusedSimpArgs false
set_option linter.unusedVariables false
open Go.RowKit
theorem ZfJ {p:HArc→Bool} {l:List HArc} {k:Nat} {x:HArc} (hk:k<l.length) (hx:l[k]=x) (hr:p x=true):(l.take (k+1)).filter p=(l.take k).filter p++[x]:=by
 subst hx
 rw[List.take_succ_eq_append_getElem hk,List.filter_append,List.filter_cons_of_pos (by rw[hr])]
 rfl
theorem Zgu {p:HArc→Bool} {l:List HArc} {k:Nat} {x:HArc} (hk:k<l.length) (hx:l[k]=x) (hr:p x=false):(l.take (k+1)).filter p=(l.take k).filter p:=by
 subst hx
 rw[List.take_succ_eq_append_getElem hk,List.filter_append,List.filter_cons_of_neg (by rw[hr];decide)]
 simp
end Go.Proofs.Ytfcefnpnomlgbaa
/- The document's digraph:the arcs of a mask. -/
namespace Go.Proofs.Ytfcefnpnomlgbaa
set_option linter.unusedSimpArgs false
set_option linter.unusedVariables false
open Go.RowKit
set_option maxRecDepth 100000 in
set_option maxHeartbeats 1000000 in
theorem Zhx (F:Nat→Prop) (w:World) (A:Option Addr) (c:Nat) (l:List HArc) (mask:Int) (h:ArcsL F w A l) (hkd:∀x∈l,1≤x.kind∧x.kind≤3) (hl:l.length≤1000000):
  Calls Try.prog 10 #[.slice A l.length c,.int .i64 mask] w (ZgQ w (l.filter fun x=>Zy mask x.kind)):=by
 have HA:=Lib.hid h
 clear h
 go_enter Try.func10,Try.ntmps10
 go_wp2
 go_loopg [5,10] l.length (fun gk s i wr=>∃(k:Nat) (A5:Option Addr) (c5:Nat) (xs:List HArc),k+gk=l.length∧i= .int .i64 k∧s= .slice A5 xs.length c5∧Hid (xs=(l.take k).filter fun x=>Zy mask x.kind)∧xs.length≤k∧
  wr.ownsRow w.heap.size 28 4 (.slice A5 xs.length c5) xs.length (Zw xs)∧Upd No w wr)
 case atStart=>exact⟨0,none,0,[],by omega,rfl,rfl,Lib.hid (by simp),by simp,World.ownsRow_nil _ _ _ _,Upd.refl _ _⟩
 case round=>
  obtain⟨k,A5,c5,xs,hgk,rfl,rfl,hxs,hxl,hown,hu⟩:=hrel
  by_cases hlt:k<l.length
  ·obtain⟨ax,rfl,q0,q1,q2,q3⟩:=(HA.out.upd hu (fun _ _=>id)).at_ hlt
   obtain⟨x,hx⟩:∃x,l[k]=x:=⟨_,rfl⟩
   obtain⟨hk1,hk2⟩:=hkd _ (List.getElem_mem hlt)
   rw[hx]at q0 q1 q2 q3 hk1 hk2
   have X:=Lib.hid hx
   clear hx
   have b1:(0:Int)≤(k:Int):=Int.natCast_nonneg _
   have b2:(k:Int)<(l.length:Int):=by omega
   have uA:=(Upd.refl No wr).alloc (.cells #[.int .i64 x.f,.int .i64 x.t,.int .i64 x.kind,.int .i64 x.label] 28)
   have bo:=Blk.new wr 28 [.int .i64 x.f,.int .i64 x.t,.int .i64 x.kind,.int .i64 x.label]
   have hown1:=Zb hown uA (fun _ _=>id)
   have g0:=bo.cell 2
   simp only[List.getElem?_cons_zero,List.getElem?_cons_succ]at g0
   have hof:=Lib.hid (fun W=>Zhw W mask x.kind hk1 hk2)
   cases hr:Zy mask x.kind
   ·rw[hr]at hof
    have HS:=Lib.hid (Zgu (p:=fun x=>Zy mask x.kind) hlt X.out hr)
    clear hr
    go_wp2_with fail
    refine(hof.out _).mono ?_
    rintro e w1 ⟨rfl,hu1⟩
    have Hu1:=Lib.hid ((hu.trans uA).trans hu1)
    have hown2:=Zb hown1 hu1 (fun _ _=>id)
    clear hown1 uA hu1
    go_wp2
    go_roundg (gk-1)
    case measure=>omega
    case rel=>exact⟨k+1,A5,c5,xs,by omega,by go_num,rfl,Lib.hid (by rw[HS.out,hxs.out]),by omega,hown2,Hu1.out⟩
   ·rw[hr]at hof
    have HS:=Lib.hid (ZfJ (p:=fun x=>Zy mask x.kind) hlt X.out hr)
    clear hr
    go_wp2_with fail
    refine(hof.out _).mono ?_
    rintro e w1 ⟨rfl,hu1⟩
    have bo1:=bo.upd hu1 id
    have g1:=bo1.cell 0
    have g2:=bo1.cell 1
    have g3:=bo1.cell 2
    have g4:=bo1.cell 3
    simp only[List.getElem?_cons_zero,List.getElem?_cons_succ]at g1 g2 g3 g4
    have hown2:=Zb hown1 hu1 (fun _ _=>id)
    have hz1:=(uA.trans hu1).size
    have hz0:=hu.size
    have Hu1:=Lib.hid ((hu.trans uA).trans hu1)
    have HL:=Lib.hid (ZbM xs)
    clear hown1 uA hu1 bo1
    go_wp2_with (at_builtin;refine Zq rfl rfl Zav (v:= .slice A5 xs.length c5) (cells:=[.int .i64 x.f,.int .i64 x.t,.int .i64 x.kind,.int .i64 x.label]) (by rfl) rfl hown2 rfl rfl (by omega) (by omega) (by omega) ?_;intro g' c' w2 hown3 hu3 hg3 hlt3)
    go_roundg (gk-1)
    case measure=>omega
    case rel=>
     refine⟨k+1,some ⟨g',0,none⟩,c',xs++[x],by omega,by go_num,by simp,Lib.hid (by rw[HS.out,hxs.out]),by simp;omega,by simpa[Zw,HArc.cells]using hown3,Hu1.out.then_ hu3 fun i e=> ?_⟩
     exact .inr (hown2.lt i e).1
  ·obtain rfl:k=l.length:=by omega
   have Hx:=Lib.hid (show(l.filter fun x=>Zy mask x.kind)=xs by rw[hxs.out,List.take_length])
   clear hxs
   go_wp2
   go_ret
   rw[Hx.out]
   exact⟨A5,c5,rfl,hown,hu⟩
end Go.Proofs.Ytfcefnpnomlgbaa
/- The document's digraph:the order of arcs;how many nodes there may be. -/
namespace Go.Proofs.Ytfcefnpnomlgbaa
set_option linter.unusedSimpArgs false
set_option linter.unusedVariables false
open Go.RowKit
def Zf (a b:HArc):Bool:=if a.f=b.f then (if a.kind=b.kind then (if a.label=b.label then decide (a.t<b.t) else decide (a.label<b.label)) else decide (a.kind<b.kind)) else decide (a.f<b.f)
theorem ZgD (w:World) (a b:HArc):Calls Try.prog 23 #[.agg a.cells.toArray,.agg b.cells.toArray] w fun e w'=>e= .returned (.bool (Zf a b))∧Upd No w w':=by
 obtain⟨af,at',ak,al⟩:=a
 obtain⟨bf,bt,bk,bl⟩:=b
 have U0:=Lib.hid (((Upd.refl No w).alloc (.cells (HArc.cells ⟨af,at',ak,al⟩).toArray 28)).alloc (.cells (HArc.cells ⟨bf,bt,bk,bl⟩).toArray 28))
 unfold HArc.cells at*
 by_cases h1:af=bf
 ·subst h1
  by_cases h2:ak=bk
  ·subst h2
   by_cases h3:al=bl
   ·subst h3
    have HV:=Lib.hid (show Zf ⟨af,at',ak,al⟩ ⟨af,bt,ak,al⟩=decide (at'<bt) by simp[Zf])
    go_enter Try.func23,Try.ntmps23
    go_wp2
    go_ret
    exact⟨by rw[HV.out];rfl,U0.out⟩
   ·have HV:=Lib.hid (show Zf ⟨af,at',ak,al⟩ ⟨af,bt,ak,bl⟩=decide (al<bl) by simp[Zf,h3])
    go_enter Try.func23,Try.ntmps23
    go_wp2
    go_ret
    exact⟨by rw[HV.out];rfl,U0.out⟩
  ·have HV:=Lib.hid (show Zf ⟨af,at',ak,al⟩ ⟨af,bt,bk,bl⟩=decide (ak<bk) by simp[Zf,h2])
   go_enter Try.func23,Try.ntmps23
   go_wp2
   go_ret
   exact⟨by rw[HV.out];rfl,U0.out⟩
 ·have HV:=Lib.hid (show Zf ⟨af,at',ak,al⟩ ⟨bf,bt,bk,bl⟩=decide (af<bf) by simp[Zf,h1])
  go_enter Try.func23,Try.ntmps23
  go_wp2
  go_ret
  exact⟨by rw[HV.out];rfl,U0.out⟩
theorem ZgW (w:World) (n:Int):Calls Try.prog 7 #[.int .i64 n] w fun e w'=>e= .returned (.int .i64 (Zp n:Int))∧w=w':=by
 by_cases h1:n<0
 ·have hv:=Lib.hid (show(Zp n:Int)=0 by unfold Zp;omega)
  go_enter Try.func7,Try.ntmps7
  go_wp2
  go_ret
  exact⟨by rw[hv.out];rfl,rfl⟩
 ·by_cases h2:4096<n
  ·have hv:=Lib.hid (show(Zp n:Int)=4096 by unfold Zp;omega)
   go_enter Try.func7,Try.ntmps7
   go_wp2
   go_ret
   exact⟨by rw[hv.out];rfl,rfl⟩
  ·have hv:=Lib.hid (show(Zp n:Int)=n by unfold Zp;omega)
   go_enter Try.func7,Try.ntmps7
   go_wp2
   go_ret
   exact⟨by rw[hv.out];rfl,rfl⟩
end Go.Proofs.Ytfcefnpnomlgbaa
/- A nil digraph. -/
namespace Go.Proofs.Ytfcefnpnomlgbaa
set_option linter.unusedSimpArgs false
set_option linter.unusedVariables false
open Go.RowKit
theorem Zee (w:World):Calls Try.prog 26 #[.pointer none] w fun e w'=>e= .returned (.int .i64 0)∧w=w':=by
 go_enter Try.func26,Try.ntmps26
 go_wp2
 go_ret
 exact⟨rfl,rfl⟩
theorem Ze8 (w:World) (i:Int):Calls Try.prog 34 #[.pointer none,.int .i64 i] w fun e w'=>e= .returned (.bool false)∧w=w':=by
 have HN:=Lib.hid (Zee w)
 by_cases h0:0≤i
 ·have hb:decide (i<0)=false:=decide_eq_false (by omega)
  go_enter Try.func34,Try.ntmps34
  go_wp2_with fail
  refine(HN.out).mono ?_
  rintro e w1 ⟨rfl,rfl⟩
  go_wp2
  go_ret
  exact⟨by simp,rfl⟩
 ·have hb:decide (0≤i)=false:=decide_eq_false h0
  clear h0
  go_enter Try.func34,Try.ntmps34
  go_wp2
  go_ret
  exact⟨rfl,rfl⟩
theorem ZgM (w:World) (i mask:Int):Calls Try.prog 19 #[.pointer none,.int .i64 i,.int .i64 mask] w (Zad w []):=by
 have HN:=Lib.hid (Ze8 w i)
 go_enter Try.func19,Try.ntmps19
 go_wp2_with fail
 refine(HN.out).mono ?_
 rintro e w1 ⟨rfl,rfl⟩
 go_wp2
 go_ret
 exact ZdA _ _ (Upd.refl _ _)
theorem Zgv (w:World) (a:HArc):Calls Try.prog 36 #[.pointer none,.agg a.cells.toArray] w fun e w'=>e= .returned (.bool false)∧Upd No w w':=by
 have HN:=Lib.hid (fun W=>Ze8 W a.f)
 have U0:=Lib.hid ((Upd.refl No w).alloc (.cells a.cells.toArray 28))
 unfold HArc.cells at*
 go_enter Try.func36,Try.ntmps36
 go_wp2_with fail
 refine(HN.out _).mono ?_
 rintro e w1 ⟨rfl,rfl⟩
 go_wp2
 go_ret
 exact⟨rfl,U0.out⟩
theorem Zhc (w:World) (a:HArc):Calls Try.prog 21 #[.pointer none,.agg a.cells.toArray] w fun e w'=>e= .returned (.int .i64 1)∧Upd No w w':=by
 have HN:=Lib.hid (fun W=>Zgv W a)
 have U0:=Lib.hid ((Upd.refl No w).alloc (.cells a.cells.toArray 28))
 unfold HArc.cells at*
 go_enter Try.func21,Try.ntmps21
 go_wp2_with fail
 refine(HN.out _).mono ?_
 rintro e w1 ⟨rfl,hu⟩
 have HU:=Lib.hid (U0.out.trans hu)
 clear hu
 go_wp2
 go_ret
 exact⟨rfl,HU.out⟩
end Go.Proofs.Ytfcefnpnomlgbaa
