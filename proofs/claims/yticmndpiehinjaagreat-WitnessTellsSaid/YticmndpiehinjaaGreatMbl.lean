/- Digraphs: the nodes of some ends. -/
import Derived.Laws.StructEq
import Derived.Test.YticmndpiehinjaaGreatProg
import Derived.Test.YticmndpiehinjaaGreatMai
import Derived.Test.YticmndpiehinjaaGreatMao
import Derived.Test.YticmndpiehinjaaGreatMaz
import Derived.Test.YticmndpiehinjaaGreatMbe
namespace Go.Proofs.YticmndpiehinjaaGreat
set_option linter.unusedVariables false
set_option linter.unusedSimpArgs false
section
open Go.RowKit
def ZcY (mask:Int) (l:List DEnd):List Int:=(l.filter fun e=>Zt mask e.kind).map (·.node)
def Zd2 (mask:Int) (l:List DEnd):List Int:=Lib.compact (Zaa (ZcY mask l))
theorem Znn {mask:Int} {l:List DEnd} {k:Nat} {x:DEnd} (hk:k<l.length) (hx:l[k]=x) (hr:Zt mask x.kind=true):ZcY mask (l.take (k+1))=ZcY mask (l.take k)++[x.node]:=by
 subst hx;unfold ZcY;rw[List.take_succ_eq_append_getElem hk,List.filter_append,List.map_append,List.filter_cons_of_pos (by rw[hr])];rfl
theorem ZoR {mask:Int} {l:List DEnd} {k:Nat} {x:DEnd} (hk:k<l.length) (hx:l[k]=x) (hr:Zt mask x.kind=false):ZcY mask (l.take (k+1))=ZcY mask (l.take k):=by
 subst hx;unfold ZcY;rw[List.take_succ_eq_append_getElem hk,List.filter_append,List.map_append,List.filter_cons_of_neg (by rw[hr];decide)];simp
theorem Zr4 (w:World) (mask kind:Int) (h1:1≤kind) (h2:kind≤3):Calls Tryz.prog 134 #[.int .i64 mask,.int .i64 kind] w fun e w'=>e= .returned (.bool (Zt mask kind))∧Upd No w w':=
 (dof w mask kind h1 h2).mono fun _ _ h=>⟨h.1,h.2▸Upd.refl No w⟩
set_option maxRecDepth 100000 in
set_option maxHeartbeats 1000000 in
theorem Zta (F:Nat→Prop) (w:World) (mask:Int) (A:Option Addr) (c:Nat) (l:List DEnd) (h:DEnds F w A l) (hkd:∀e∈l,1≤e.kind∧e.kind≤3) (hl:l.length≤1000000):
  Calls Tryz.prog 161 #[.slice A l.length c,.int .i64 mask] w (Zfv w (Zd2 mask l)):=by
 go_enter Tryz.func161,Tryz.ntmps161
 go_wp2
 go_loopg [5,10] l.length (fun gk s i wr=>∃(k:Nat) (A5:Option Addr) (c5:Nat) (xs:List Int),k+gk=l.length∧i= .int .i64 k∧s= .slice A5 xs.length c5∧Hid (xs=ZcY mask (l.take k))∧xs.length≤k∧
  wr.ownsRow w.heap.size 3 1 (.slice A5 xs.length c5) xs.length (xs.map (Value.int .i64))∧Upd No w wr)
 case atStart=>exact⟨0,none,0,[],by omega,rfl,rfl,Qh (by simp[ZcY]),by simp,World.ownsRow_nil _ _ _ _,Upd.refl _ _⟩
 case round=>
  obtain⟨k,A5,c5,xs,hgk,rfl,rfl,hxs,hxl,hown,hu⟩:=hrel
  by_cases hlt:k<l.length
  ·obtain⟨ad,hAd,q0,q1,q2⟩:=(h.upd hu (fun _ _=>id)).at_ hlt;obtain⟨hk1,hk2⟩:=hkd _ (List.getElem_mem hlt);obtain⟨x,hx⟩:∃x,l[k]=x:=⟨_,rfl⟩;rw[hx]at q0 q1 q2 hk1 hk2;subst hAd;have X:=Qh hx;clear hx;have b1:(0:Int)≤(k:Int):=Qn _;have b2:(k:Int)<(l.length:Int):=by omega
   have uA:=(Upd.refl No wr).alloc (.cells #[.int .i64 x.kind,.int .i64 x.label,.int .i64 x.node] 177);have bo:=Blk.new wr 177 [.int .i64 x.kind,.int .i64 x.label,.int .i64 x.node];have hown1:=Za hown uA (fun _ _=>id);have g0:=bo.cell 0;simp only[Qz]at g0;have hof:=Qh (fun W=>Zr4 W mask x.kind hk1 hk2)
   cases hr:Zt mask x.kind
   ·rw[hr]at hof;have HS:=Qh (ZoR hlt X.out hr);clear hr
    go_wp2_with fail
    refine(hof.out _).mono ?_;rintro e w1 ⟨rfl,hu1⟩;have Hu1:=Qh ((hu.trans uA).trans hu1);have hown2:=Za hown1 hu1 (fun _ _=>id);clear hown1 uA hu1;go_wp2
    go_roundg (gk-1)
    case measure=>omega
    case rel=>exact⟨k+1,A5,c5,xs,by omega,by go_num,rfl,Qh (by rw[HS.out,hxs.out]),by omega,hown2,Hu1.out⟩
   ·rw[hr]at hof;have HS:=Qh (Znn hlt X.out hr);clear hr
    go_wp2_with fail
    refine(hof.out _).mono ?_;rintro e w1 ⟨rfl,hu1⟩;have bo1:=bo.upd hu1 id;have g1:=bo1.cell 2;simp only[Qz,Qs]at g1;have hown2:=Za hown1 hu1 (fun _ _=>id);have hz1:=(uA.trans hu1).size;have hz0:=hu.size;have Hu1:=Qh ((hu.trans uA).trans hu1);clear hown1 uA hu1
    go_wp2_with (at_builtin;refine ZX rfl rfl Zbw (v:= .slice A5 xs.length c5) (cells:=[.int .i64 x.node]) (by rfl) rfl hown2 rfl rfl (by omega) (by omega) (by omega) ?_;intro g' c' w2 hown3 hu3 hg3 hlt3)
    go_roundg (gk-1)
    case measure=>omega
    case rel=>
     refine⟨k+1,some ⟨g',0,none⟩,c',xs++[x.node],by omega,by go_num,by simp,Qh (by rw[HS.out,hxs.out]),by simp;omega,by simpa using hown3,Hu1.out.then_ hu3 fun i e=> ?_⟩;exact .inr (hown2.lt i e).1
  ·obtain rfl:k=l.length:=by omega
   have Hx:=Qh (show xs=ZcY mask l by rw[hxs.out,List.take_length]);clear hxs;have hsl:=Qh (ZbF xs);have Hk:=Qh (show Lib.compact (Zaa xs)=Zd2 mask l by rw[Hx.out];rfl)
   go_wp2_with fail
   refine(ZhU _ _ A5 c5 xs hown (by omega)).mono ?_;rintro e w1 ⟨rfl,ho1,hu1⟩;have ho1':w1.ownsRow w.heap.size 3 1 (.slice A5 (Zaa xs).length c5) (Zaa xs).length ((Zaa xs).map (Value.int .i64)):=by rw[hsl.out];exact ho1
   have hic:=Zhc w1 w.heap.size A5 c5 (Zaa xs) ho1' (by rw[hsl.out];omega);rw[Hk.out,hsl.out]at hic;have Hic:=Qh hic;have hge:=Qh (show∀i,Own (.slice A5 xs.length c5) i→w.heap.size≤i from fun i e=>(hown.lt i e).1);clear hic ho1 ho1' hown
   go_wp2_with fail
   refine(Hic.out).mono ?_;rintro e w2 ⟨rfl,ho2,hu2⟩;go_wp2
   go_ret
   exact⟨A5,c5,rfl,ho2,(hu.then_ hu1 fun i e=> .inr (hge.out i e)).then_ hu2 fun i e=> .inr (hge.out i e)⟩
end
/- Digraphs:the nodes next to one,and those ahead of it. -/
section
open Go.RowKit
def Zdl (mask:Int) (ls:List (List DEnd)) (i:Int):List Int:=match (if Zap ls.length i then ls[i.toNat]? else none)with|some l=>Zd2 mask l|none=>[]
def ZhS (ls:List (List DEnd)):Prop:=∀l∈ls,∀e∈l,1≤e.kind∧e.kind≤3
theorem Zkd (w w':World) (u:Upd No w w'):Zfv w [] (.returned (.slice none 0 0)) w':=⟨none,0,rfl,World.ownsRow_nil _ _ _ _,u⟩
section
variable {w:World} {G:Nat→Prop} {g:Nat} {out inn:List (List DEnd)} {n:Int} {ob ib:Nat} {oh ih:List Value} {base:Nat}
set_option maxRecDepth 100000 in
theorem Zs9 (h:GIs w G g out inn n ob ib oh ih base) (hk:ZhS inn) (i mask:Int):Calls Tryz.prog 132 #[.pointer (some ⟨g,0,none⟩),.int .i64 i,.int .i64 mask] w (Zfv w (Zdl mask inn i)):=by
 have HN:=Qh (ZmA h i);have hlen:=h.len
 by_cases hb:Zap out.length i=true
 ·have hb':=hb;simp only[Zap,Bool.and_eq_true,decide_eq_true_eq]at hb';obtain⟨j,rfl⟩:∃j:Nat,i=(j:Int):=⟨i.toNat,by omega⟩;have hj:j<inn.length:=by omega
  obtain⟨A,c,hoi,hown⟩:=h.ri.2 j hj;have hv:=Qh (show Zdl mask inn (j:Int)=Zd2 mask inn[j] by unfold Zdl;rw[hlen,if_pos hb];simp[Qg hj]);have c0:=h.blk.cell 1;have c1:w.cell? ⟨ib,j,none⟩=some (.slice A inn[j].length c):=by rw[h.ib_.cell j];exact hoi
  have hc:=Qh (Zta _ w mask A c inn[j] (Zet hown) (hk _ (List.getElem_mem hj)) (Nat.le_trans (h.few.2.2 _ (List.getElem_mem hj)) (by omega)));have k1:(0:Int)≤(j:Int):=Qn _;have k2:(j:Int)<(out.length:Int):=by omega
  simp only[Qz,Qs]at c0;rw[hb]at HN;clear hb hb' hoi hown h hk hlen
  go_enter Tryz.func132,Tryz.ntmps132
  go_wp2_with fail
  refine(HN.out).mono ?_;rintro e w1 ⟨rfl,rfl⟩
  go_wp2_with fail
  refine(hc.out).mono ?_;rintro e w2 ⟨A2,c2,rfl,ho,hu⟩;go_wp2
  go_ret
  rw[hv.out];exact⟨A2,c2,rfl,ho,hu⟩
 ·have hb':Zap out.length i=false:=by simpa using hb
  have hv:=Qh (show Zdl mask inn i=[] by unfold Zdl;rw[hlen,if_neg hb]);rw[hb']at HN;clear hb hb' h hk hlen
  go_enter Tryz.func132,Tryz.ntmps132
  go_wp2_with fail
  refine(HN.out).mono ?_;rintro e w1 ⟨rfl,rfl⟩;go_wp2
  go_ret
  rw[hv.out];exact Zkd _ _ (Upd.refl _ _)
end
end
/- Digraphs:the arcs that go out of a node. -/
section
open Go.RowKit
theorem ZeI:SlT Tryz.prog 95 102 4 32:=SlT.mk_ Tryz.underlying95 (z:= .agg #[.int .i64 0,.int .i64 0,.int .i64 0,.int .i64 0]) (by kernel_rfl) rfl (by omega)
def Zbt (l:List HArc):List Value:=(l.map HArc.cells).flatten
def ZkT (w:World) (l:List HArc) (e:Ending) (w':World):Prop:=∃A c,e= .returned (.slice A l.length c)∧w'.ownsRow w.heap.size 102 4 (.slice A l.length c) l.length (Zbt l)∧Upd No w w'
def Zcd (mask i:Int) (l:List DEnd):List HArc:=(l.filter fun e=>Zt mask e.kind).map fun e=>⟨i,e.node,e.kind,e.label⟩
theorem Zno {mask i:Int} {l:List DEnd} {k:Nat} {x:DEnd} (hk:k<l.length) (hx:l[k]=x) (hr:Zt mask x.kind=true):Zcd mask i (l.take (k+1))=Zcd mask i (l.take k)++[⟨i,x.node,x.kind,x.label⟩]:=by
 subst hx;unfold Zcd;rw[List.take_succ_eq_append_getElem hk,List.filter_append,List.map_append,List.filter_cons_of_pos (by rw[hr])];rfl
theorem ZoS {mask i:Int} {l:List DEnd} {k:Nat} {x:DEnd} (hk:k<l.length) (hx:l[k]=x) (hr:Zt mask x.kind=false):Zcd mask i (l.take (k+1))=Zcd mask i (l.take k):=by
 subst hx;unfold Zcd;rw[List.take_succ_eq_append_getElem hk,List.filter_append,List.map_append,List.filter_cons_of_neg (by rw[hr];decide)];simp
theorem Zjw (l:List HArc):(Zbt l).length=l.length*4:=by
 unfold Zbt
 induction l with
 |nil=>rfl
 |cons a l ih=>simp only[List.map_cons,List.flatten_cons,List.length_append,List.length_cons,ih];simp[HArc.cells];omega
def Zez (mask:Int) (ls:List (List DEnd)) (i:Int):List HArc:=match (if Zap ls.length i then ls[i.toNat]? else none)with|some l=>Zcd mask i l|none=>[]
section
variable {w:World} {G:Nat→Prop} {g:Nat} {out inn:List (List DEnd)} {n:Int} {ob ib:Nat} {oh ih:List Value} {base:Nat}
set_option maxRecDepth 100000 in
set_option maxHeartbeats 1000000 in
theorem ZtN (h:GIs w G g out inn n ob ib oh ih base) (hkd:ZhS out) (i mask:Int):Calls Tryz.prog 94 #[.pointer (some ⟨g,0,none⟩),.int .i64 i,.int .i64 mask] w (ZkT w (Zez mask out i)):=by
 have HN:=Qh (ZmA h i)
 by_cases hb:Zap out.length i=true
 ·have hb':=hb;simp only[Zap,Bool.and_eq_true,decide_eq_true_eq]at hb';obtain⟨j,rfl⟩:∃j:Nat,i=(j:Int):=⟨i.toNat,by omega⟩;have hj:j<out.length:=by omega
  obtain⟨A,c,hoi,hown0⟩:=h.ro.2 j hj;have hv:=Qh (show Zez mask out (j:Int)=Zcd mask j out[j] by unfold Zez;rw[if_pos hb];simp[Qg hj]);have c0:=h.blk.cell 0;have c1:w.cell? ⟨ob,j,none⟩=some (.slice A out[j].length c):=by rw[h.ob_.cell j];exact hoi
  have hde:=Zet hown0;have hkl:=hkd _ (List.getElem_mem hj);have hl:out[j].length≤1000000:=Nat.le_trans (h.few.2.1 _ (List.getElem_mem hj)) (by omega);obtain⟨l,hlq⟩:∃l,out[j]=l:=⟨_,rfl⟩;rw[hlq]at hde hkl hl hv c1;have k1:(0:Int)≤(j:Int):=Qn _;have k2:(j:Int)<(out.length:Int):=by omega
  simp only[Qz]at c0;rw[hb]at HN;clear hb hb' hoi hown0 h hkd hlq
  go_enter Tryz.func94,Tryz.ntmps94
  go_wp2_with fail
  refine(HN.out).mono ?_;rintro e w1 ⟨rfl,rfl⟩;go_wp2
  go_loopg [7,23] l.length (fun gk s i wr=>∃(k:Nat) (A5:Option Addr) (c5:Nat) (xs:List HArc),k+gk=l.length∧i= .int .i64 k∧s= .slice A5 xs.length c5∧Hid (xs=Zcd mask j (l.take k))∧xs.length≤k∧
   wr.ownsRow w.heap.size 102 4 (.slice A5 xs.length c5) xs.length (Zbt xs)∧Upd No w wr)
  case atStart=>exact⟨0,none,0,[],by omega,rfl,rfl,Qh (by simp[Zcd]),by simp,World.ownsRow_nil _ _ _ _,Upd.refl _ _⟩
  case round=>
   obtain⟨k,A5,c5,xs,hgk,rfl,rfl,hxs,hxl,hown,hu⟩:=hrel
   by_cases hlt:k<l.length
   ·obtain⟨ad,hAd,q0,q1,q2⟩:=(hde.upd hu (fun _ _=>id)).at_ hlt;obtain⟨hk1,hk2⟩:=hkl _ (List.getElem_mem hlt);obtain⟨x,hx⟩:∃x,l[k]=x:=⟨_,rfl⟩;rw[hx]at q0 q1 q2 hk1 hk2;subst hAd;have X:=Qh hx;clear hx;have b1:(0:Int)≤(k:Int):=Qn _;have b2:(k:Int)<(l.length:Int):=by omega
    have uA:=(Upd.refl No wr).alloc (.cells #[.int .i64 x.kind,.int .i64 x.label,.int .i64 x.node] 177);have bo:=Blk.new wr 177 [.int .i64 x.kind,.int .i64 x.label,.int .i64 x.node];have hown1:=Za hown uA (fun _ _=>id);have g0:=bo.cell 0;simp only[Qz]at g0;have hof:=Qh (fun W=>Zr4 W mask x.kind hk1 hk2)
    cases hr:Zt mask x.kind
    ·rw[hr]at hof;have HS:=Qh (ZoS (i:=(j:Int)) hlt X.out hr);clear hr
     go_wp2_with fail
     refine(hof.out _).mono ?_;rintro e w1 ⟨rfl,hu1⟩;have Hu1:=Qh ((hu.trans uA).trans hu1);have hown2:=Za hown1 hu1 (fun _ _=>id);clear hown1 uA hu1;go_wp2
     go_roundg (gk-1)
     case measure=>omega
     case rel=>exact⟨k+1,A5,c5,xs,by omega,by go_num,rfl,Qh (by rw[HS.out,hxs.out]),by omega,hown2,Hu1.out⟩
    ·rw[hr]at hof;have HS:=Qh (Zno (i:=(j:Int)) hlt X.out hr);clear hr
     go_wp2_with fail
     refine(hof.out _).mono ?_;rintro e w1 ⟨rfl,hu1⟩;have bo1:=bo.upd hu1 id;have g1:=bo1.cell 0;have g2:=bo1.cell 1;have g3:=bo1.cell 2;simp only[Qz,Qs]at g1 g2 g3;have hown2:=Za hown1 hu1 (fun _ _=>id);have hz1:=(uA.trans hu1).size;have hz0:=hu.size;have Hu1:=Qh ((hu.trans uA).trans hu1);have HL:=Qh (Zjw xs);clear hown1 uA hu1 bo1
     go_wp2_with (at_builtin;refine ZX rfl rfl ZeI (v:= .slice A5 xs.length c5) (cells:=[.int .i64 (j:Int),.int .i64 x.node,.int .i64 x.kind,.int .i64 x.label]) (by rfl) rfl hown2 rfl rfl (by omega) (by omega) (by omega) ?_;intro g' c' w2 hown3 hu3 hg3 hlt3)
     go_roundg (gk-1)
     case measure=>omega
     case rel=>
      refine⟨k+1,some ⟨g',0,none⟩,c',xs++[⟨j,x.node,x.kind,x.label⟩],by omega,by go_num,by simp,Qh (by rw[HS.out,hxs.out]),by simp;omega,by simpa[Zbt,HArc.cells]using hown3,Hu1.out.then_ hu3 fun i e=> ?_⟩;exact .inr (hown2.lt i e).1
   ·obtain rfl:k=l.length:=by omega
    have Hx:=Qh (show Zcd mask j l=xs by rw[hxs.out,List.take_length]);clear hxs;go_wp2
    go_ret
    rw[hv.out,Hx.out];exact⟨A5,c5,rfl,hown,hu⟩
 ·have hb':Zap out.length i=false:=by simpa using hb
  have hv:=Qh (show Zez mask out i=[] by unfold Zez;rw[if_neg hb]);rw[hb']at HN;clear hb hb' h hkd
  go_enter Tryz.func94,Tryz.ntmps94
  go_wp2_with fail
  refine(HN.out).mono ?_;rintro e w1 ⟨rfl,rfl⟩;go_wp2
  go_ret
  rw[hv.out];exact⟨none,0,rfl,World.ownsRow_nil _ _ _ _,Upd.refl _ _⟩
end
end
/- Digraphs:all arcs. -/
section
open Go.RowKit
theorem Zq7 (l:List HArc):∀r∈l.map HArc.cells,r.length=4:=by
 intro r hr;rw[List.mem_map]at hr;obtain⟨a,_,rfl⟩:=hr;rfl
section
variable {w:World} {G:Nat→Prop} {g:Nat} {out inn:List (List DEnd)} {n:Int} {ob ib:Nat} {oh ih:List Value} {base:Nat}
end
end
/- Digraphs:lists of arcs;when two are one. -/
section
open Go.RowKit
def ArcsL (F:Nat→Prop) (w:World) (A:Option Addr) (l:List HArc):Prop:=Recs F w A 4 (l.map HArc.cells)
theorem ArcsL.at_ {F:Nat→Prop} {w:World} {A:Option Addr} {l:List HArc} (h:ArcsL F w A l) {k:Nat} (hk:k<l.length):∃ad,A=some ad∧
  w.cell? (ad.add (k*4))=some (.int .i64 l[k].f)∧w.cell? ⟨(ad.add (k*4)).block,(ad.add (k*4)).off+1,none⟩=some (.int .i64 l[k].t)∧
  w.cell? ⟨(ad.add (k*4)).block,(ad.add (k*4)).off+2,none⟩=some (.int .i64 l[k].kind)∧w.cell? ⟨(ad.add (k*4)).block,(ad.add (k*4)).off+3,none⟩=some (.int .i64 l[k].label):=by
 have hk':k<(l.map HArc.cells).length:=by simpa using hk
 obtain⟨ad,e,_,_,hc⟩:=Recs.at_ h hk';rw[List.getElem_map]at hc;exact⟨ad,e,by simpa using hc 0 _ rfl,by simpa using hc 1 _ rfl,by simpa using hc 2 _ rfl,by simpa using hc 3 _ rfl⟩
theorem ArcsL.upd {F S:Nat→Prop} {w w':World} {A:Option Addr} {l:List HArc} (h:ArcsL F w A l) (k:Upd S w w') (hn:∀i,F i→¬S i):ArcsL F w' A l:=Recs.upd h k hn
end
/- The document's digraph:the order of arcs;how many nodes there may be. -/
section
open Go.RowKit
def ZaY (a b:HArc):Bool:=if a.f=b.f then (if a.kind=b.kind then (if a.label=b.label then decide (a.t<b.t) else decide (a.label<b.label)) else decide (a.kind<b.kind)) else decide (a.f<b.f)
end
/- A nil digraph. -/
section
open Go.RowKit
theorem ZlJ (w:World):Calls Tryz.prog 129 #[.pointer none] w fun e w'=>e= .returned (.int .i64 0)∧w=w':=by
 go_enter Tryz.func129,Tryz.ntmps129
 go_wp2
 go_ret
 exact⟨rfl,rfl⟩
theorem ZkE (w:World) (i:Int):Calls Tryz.prog 133 #[.pointer none,.int .i64 i] w fun e w'=>e= .returned (.bool false)∧w=w':=by
 have HN:=Qh (ZlJ w)
 by_cases h0:0≤i
 ·have hb:decide (i<0)=false:=decide_eq_false (by omega)
  go_enter Tryz.func133,Tryz.ntmps133
  go_wp2_with fail
  refine(HN.out).mono ?_;rintro e w1 ⟨rfl,rfl⟩;go_wp2
  go_ret
  exact⟨by simp,rfl⟩
 ·have hb:decide (0≤i)=false:=decide_eq_false h0;clear h0
  go_enter Tryz.func133,Tryz.ntmps133
  go_wp2
  go_ret
  exact⟨rfl,rfl⟩
theorem ZqZ (w:World) (a:HArc):Calls Tryz.prog 121 #[.pointer none,.agg a.cells.toArray] w fun e w'=>e= .returned (.bool false)∧Upd No w w':=by
 have HN:=Qh (fun W=>ZkE W a.f);have U0:=Qh ((Upd.refl No w).alloc (.cells a.cells.toArray 102));unfold HArc.cells at*
 go_enter Tryz.func121,Tryz.ntmps121
 go_wp2_with fail
 refine(HN.out _).mono ?_;rintro e w1 ⟨rfl,rfl⟩;go_wp2
 go_ret
 exact⟨rfl,U0.out⟩
theorem Zth (w:World) (a:HArc):Calls Tryz.prog 90 #[.pointer none,.agg a.cells.toArray] w fun e w'=>e= .returned (.int .i64 1)∧Upd No w w':=by
 have HN:=Qh (fun W=>ZqZ W a);have U0:=Qh ((Upd.refl No w).alloc (.cells a.cells.toArray 102));unfold HArc.cells at*
 go_enter Tryz.func90,Tryz.ntmps90
 go_wp2_with fail
 refine(HN.out _).mono ?_;rintro e w1 ⟨rfl,hu⟩;have HU:=Qh (U0.out.trans hu);clear hu;go_wp2
 go_ret
 exact⟨rfl,HU.out⟩
end
/- Whether a number is among some. -/
section
open Go.RowKit
theorem ZsB (w:World) (F:Nat→Prop) (A:Option Addr) (c:Nat) (l:List Int) (a:Int) (h:Ints F w A l) (hl:l.length≤4398046511103):
  Calls Tryz.prog 60 #[.slice A l.length c,.int .i64 a] w fun e w'=>e= .returned (.bool (decide (a∈l)))∧w=w':=by
 go_enter Tryz.func60,Tryz.ntmps60
 go_wp2
 go_loopg [9] l.length (fun gk i wr=>∃k:Nat,k+gk=l.length∧i= .int .i64 k∧Hid (decide (a∈l)=decide (a∈l.drop k))∧w=wr)
 case atStart=>exact⟨0,by omega,rfl,Qh (by simp),rfl⟩
 case round=>
  obtain⟨k,hgk,rfl,hs,rfl⟩:=hrel
  by_cases hlt:k<l.length
  ·obtain⟨ax,rfl,hc0⟩:=h.at_ hlt;obtain⟨x,hx⟩:∃x,l[k]=x:=⟨_,rfl⟩;have hd:=Qh (show l.drop k=x::l.drop (k+1) by rw[←hx];exact List.drop_eq_getElem_cons hlt);rw[hx]at hc0;have b1:(0:Int)≤(k:Int):=Qn _;have b2:(k:Int)<(l.length:Int):=by omega
   clear hx
   by_cases he:x=a
   ·have heb:(x==a)=true:=by rw[he];simp
    have He:=Qh he;clear he;go_wp2
    go_ret
    exact⟨by rw[hs.out,hd.out,He.out];simp,rfl⟩
   ·have heb:(x==a)=false:=by simpa using he
    have He:=Qh he;clear he;go_wp2
    go_roundg (gk-1)
    case measure=>omega
    case rel=>
     refine⟨k+1,by omega,by go_num,Qh ?_,rfl⟩;rw[hs.out,hd.out];have:=He.out;simp only[List.mem_cons,decide_eq_decide];exact⟨fun e=>e.elim (fun e=>absurd e.symm this) id,.inr⟩
  ·obtain rfl:k=l.length:=by omega
   go_wp2
   go_ret
   exact⟨by rw[hs.out,List.drop_length];simp,rfl⟩
end
/- Digraphs,plain:arcs in order,and the rows that hold them. -/
section
open Go.RowKit
/-! lists in strict order -/
theorem Zea {α:Type} {r:α→α→Prop} (irr:∀a,¬r a a) (tr:∀a b c,r a b→r b c→r a c):∀{l m:List α},l.Pairwise r→m.Pairwise r→(∀x,x∈l↔x∈m)→l=m
 |[],[],_,_,_=>rfl
 |[],b::m,_,_,h=>absurd ((h b).2 List.mem_cons_self) (by simp)
 |a::l,[],_,_,h=>absurd ((h a).1 List.mem_cons_self) (by simp)
 |a::l,b::m,hl,hm,h=>by
  have hl':=List.pairwise_cons.1 hl;have hm':=List.pairwise_cons.1 hm
  have hab:a=b:=by
   rcases List.mem_cons.1 ((h a).1 List.mem_cons_self)with e|e
   ·exact e
   rcases List.mem_cons.1 ((h b).2 List.mem_cons_self)with f|f
   ·exact f.symm
   exact absurd (tr _ _ _ (hm'.1 a e) (hl'.1 b f)) (irr b)
  subst hab
  have:l=m:=Zea irr tr hl'.2 hm'.2 fun x=>by
   constructor
   ·intro hx;rcases List.mem_cons.1 ((h x).1 (List.mem_cons_of_mem _ hx))with e|e
    ·subst e;exact absurd (hl'.1 x hx) (irr x)
    ·exact e
   ·intro hx;rcases List.mem_cons.1 ((h x).2 (List.mem_cons_of_mem _ hx))with e|e
    ·subst e;exact absurd (hm'.1 x hx) (irr x)
    ·exact e
  rw[this]
theorem ZoB {l m:List Int} (hl:l.Pairwise (·<·)) (hm:m.Pairwise (·<·)) (h:∀x,x∈l↔x∈m):l=m:=
 Zea (r:=(·<·)) (fun a=>by omega) (fun a b c=>by omega) hl hm h
theorem ZcN (a b:HArc):ZaY a b=true↔a.f<b.f∨(a.f=b.f∧(a.kind<b.kind∨(a.kind=b.kind∧(a.label<b.label∨(a.label=b.label∧a.t<b.t))))):=by
 unfold ZaY
 split
 ·split
  ·split
   ·simp_all
   ·simp_all
  ·simp_all
 ·simp_all
theorem Zb7 (a:HArc):¬ZaY a a=true:=by rw[ZcN];omega
theorem Zdo (a b c:HArc) (h:ZaY a b=true) (k:ZaY b c=true):ZaY a c=true:=by rw[ZcN]at*;omega
theorem Zi8 (a b:HArc) (h:¬ZaY a b=true) (k:a≠b):ZaY b a=true:=by
 rw[ZcN]at*
 have:¬(a.f=b.f∧a.kind=b.kind∧a.label=b.label∧a.t=b.t):=by
  rintro⟨e1,e2,e3,e4⟩;obtain⟨af,at',ak,al⟩:=a;obtain⟨bf,bt,bk,bl⟩:=b;simp only at e1 e2 e3 e4;subst e1 e2 e3 e4;exact k rfl
 omega
def Z9 (q:List HArc):Prop:=q.Pairwise fun a b=>ZaY a b=true
theorem Zl0 {l m:List HArc} (hl:Z9 l) (hm:Z9 m) (h:∀x,x∈l↔x∈m):l=m:=Zea Zb7 Zdo hl hm h
def Zcl (a:HArc):List HArc→List HArc
 |[]=>[a]
 |x::l=>if ZaY x a=true then x::Zcl a l else a::(x::l).filter (fun y=> !(y==a))
theorem ZbK (a b:HArc):∀l,b∈Zcl a l↔b=a∨b∈l
 |[]=>by simp[Zcl]
 |x::l=>by
  have ih:=ZbK a b l;unfold Zcl
  split
  ·simp only[List.mem_cons,ih];grind
  ·rw[List.mem_cons,List.mem_filter]
   by_cases h:b=a<;>simp[h]
theorem Zdj (a:HArc):∀l,Z9 l→Z9 (Zcl a l)
 |[],_=>by simp[Zcl,Z9]
 |x::l,h=>by
  have h':=List.pairwise_cons.1 h;unfold Zcl
  split
  ·rename_i hx
   refine List.pairwise_cons.2 ⟨fun b hb=> ?_,Zdj a l h'.2⟩;rcases(ZbK a b l).1 hb with rfl|h2
   ·exact hx
   ·exact h'.1 b h2
  ·rename_i hx
   refine List.pairwise_cons.2 ⟨fun b hb=> ?_,h.filter _⟩;rw[List.mem_filter]at hb;have h1:b≠a:=by simpa using hb.2
   by_cases hxa:x=a
   ·subst hxa;rcases List.mem_cons.1 hb.1 with rfl|h2
    ·exact absurd rfl h1
    ·exact h'.1 b h2
   ·have h3:=Zi8 x a hx hxa;rcases List.mem_cons.1 hb.1 with rfl|h2
    ·exact h3
    ·exact Zdo _ _ _ h3 (h'.1 b h2)
theorem Zj6 (a:HArc) (l:List HArc):(Zcl a l).length≤l.length+1:=by
 induction l with
 |nil=>simp[Zcl]
 |cons x l ih=>
  unfold Zcl
  split
  ·simp only[List.length_cons]at*;omega
  ·have:=List.length_filter_le (fun y=> !(y==a)) (x::l);simp only[List.length_cons]at*;omega
theorem Zj5 (a:HArc):∀l,a∉l→(Zcl a l).length=l.length+1
 |[],_=>by simp[Zcl]
 |x::l,h=>by
  have ih:=Zj5 a l (fun e=>h (List.mem_cons_of_mem _ e));unfold Zcl
  split
  ·simp only[List.length_cons,ih]
  ·rw[List.filter_eq_self.2 (fun y hy=>by
    have:y≠a:=fun e=>h (e▸hy)
    simpa using this)]
   simp
def nxS (node:Int) (back:Bool) (s:List Int):List HArc→List Int
 |[]=>s
 |x::l=>nxS node back (if back=true then (if x.t=node then Zf x.f s else s) else (if x.f=node then Zf x.t s else s)) l
def nxA (node:Int) (back:Bool) (p:List HArc):List Int:=nxS node back [] p
theorem Zgr (node:Int) (back:Bool) (v:Int):∀(l:List HArc) (s:List Int),v∈nxS node back s l↔v∈s∨∃x∈l,(if back then x.t=node∧v=x.f else x.f=node∧v=x.t)
 |[],s=>by simp[nxS]
 |x::l,s=>by
  show v∈nxS node back (if back=true then (if x.t=node then Zf x.f s else s) else (if x.f=node then Zf x.t s else s)) l↔_
  rw[Zgr node back v l]
  cases back
  ·by_cases h:x.f=node<;>simp[h,Za2]<;>grind
  ·by_cases h:x.t=node<;>simp[h,Za2]<;>grind
theorem Znr (node:Int) (back:Bool):∀(l:List HArc) (s:List Int),s.Pairwise (·<·)→(nxS node back s l).Pairwise (·<·)
 |[],_,h=>h
 |x::l,s,h=>by
  show(nxS node back (if back=true then (if x.t=node then Zf x.f s else s) else (if x.f=node then Zf x.t s else s)) l).Pairwise (·<·)
  apply Znr node back l
  cases back
  ·by_cases h2:x.f=node
   ·simpa[h2]using Zc8 _ _ h
   ·simpa[h2]using h
  ·by_cases h2:x.t=node
   ·simpa[h2]using Zc8 _ _ h
   ·simpa[h2]using h
theorem Zlx (node:Int) (back:Bool):∀(l:List HArc) (s:List Int),(nxS node back s l).length≤s.length+l.length
 |[],s=>by simp[nxS]
 |x::l,s=>by
  show(nxS node back (if back=true then (if x.t=node then Zf x.f s else s) else (if x.f=node then Zf x.t s else s)) l).length≤_
  have:=Zlx node back l (if back=true then (if x.t=node then Zf x.f s else s) else (if x.f=node then Zf x.t s else s));have h1:=Zo x.f s;have h2:=Zo x.t s
  have:(if back=true then (if x.t=node then Zf x.f s else s) else (if x.f=node then Zf x.t s else s)).length≤s.length+1:=by
   split<;>split<;>omega
  simp only[List.length_cons];omega
/-! rows of ends -/
theorem ZkL (a:DEnd):¬ZaJ a a<0:=by rw[Zgy];omega
theorem Zpu (a b:DEnd) (h:¬ZaJ a b<0) (k:a≠b):ZaJ b a<0:=by
 rw[Zgy]at*
 have:¬(a.kind=b.kind∧a.label=b.label∧a.node=b.node):=by
  rintro⟨e1,e2,e3⟩;obtain⟨ak,al,an⟩:=a;obtain⟨bk,bl,bn⟩:=b;simp only at e1 e2 e3;subst e1 e2 e3;exact k rfl
 omega
theorem Zkf (l:List DEnd) (e x:DEnd):x∈Zex l e↔x=e∨x∈l:=by
 unfold Zex Zb0;have:=List.take_append_drop (ZY l e) l;have h2:x∈l↔x∈l.take (ZY l e)∨x∈l.drop (ZY l e):=by rw[←List.mem_append,this]
 rw[h2];simp only[List.mem_append,List.mem_singleton]
 grind
theorem Zk6 {l:List DEnd} {p:Nat} {x:DEnd} (h:x∈l.take p):∃k,∃hk:k<l.length,k<p∧l[k]=x:=by
 obtain⟨k,hk,rfl⟩:=List.mem_iff_getElem.1 h;rw[List.length_take]at hk;exact⟨k,by omega,by omega,by simp⟩
theorem Zk7 {l:List DEnd} {p:Nat} {x:DEnd} (h:x∈l.drop p):∃k,∃hk:k<l.length,p≤k∧l[k]=x:=by
 obtain⟨k,hk,rfl⟩:=List.mem_iff_getElem.1 h;rw[List.length_drop]at hk;exact⟨p+k,by omega,by omega,by simp⟩
theorem ZiT {l:List DEnd} (h:Zbq l) {e:DEnd} (hn:e∉l):Zbq (Zex l e):=by
 have hp:=Zcc h e;unfold Zex Zb0 Zbq;rw[List.pairwise_append,List.pairwise_append];have h1:(l.take (ZY l e)++l.drop (ZY l e)).Pairwise fun a b=>ZaJ a b<0:=by rw[List.take_append_drop];exact h
 rw[List.pairwise_append]at h1
 have hd:∀x∈l.drop (ZY l e),ZaJ e x<0:=fun x hx=>by
  obtain⟨k,hk,hkp,rfl⟩:=Zk7 hx;exact Zpu _ _ (fun e2=>by have:=(hp.2 k hk).1 e2;omega) (fun e2=>hn (e2▸List.getElem_mem hk))
 have ht:∀x∈l.take (ZY l e),ZaJ x e<0:=fun x hx=>by
  obtain⟨k,hk,hkp,rfl⟩:=Zk6 hx;exact(hp.2 k hk).2 hkp
 refine⟨⟨h1.1,List.pairwise_singleton _ _,fun a ha b hb=> ?_⟩,h1.2.1,fun a ha b hb=> ?_⟩
 ·rw[List.mem_singleton]at hb;subst hb;exact ht a ha
 ·rcases List.mem_append.1 ha with ha|ha
  ·exact h1.2.2 a ha b hb
  ·rw[List.mem_singleton]at ha;subst ha;exact hd b hb
theorem Zho {l:List DEnd} (h:Zbq l) (e:DEnd):Zbq (Zej l e):=by
 unfold Zej ZjB Zbq;have h1:(l.take (ZY l e)++l.drop (ZY l e)).Pairwise fun a b=>ZaJ a b<0:=by rw[List.take_append_drop];exact h
 rw[List.pairwise_append]at h1;rw[List.pairwise_append]
 have hs:(l.drop (ZY l e+1)).Sublist (l.drop (ZY l e)):=by
  have:l.drop (ZY l e+1)=(l.drop (ZY l e)).drop 1:=by rw[List.drop_drop]
  rw[this];exact List.drop_sublist _ _
 exact⟨h1.1,h1.2.1.sublist hs,fun a ha b hb=>h1.2.2 a ha b (hs.subset hb)⟩
theorem Zi3 {l:List DEnd} (h:Zbq l) {e:DEnd} (hm:e∈l) (x:DEnd):x∈Zej l e↔x≠e∧x∈l:=by
 have hlt:=Zqz h hm;have hat:=Zg8 h e;rw[decide_eq_true hm]at hat
 have he:l[ZY l e]=e:=by
  unfold Zfd at hat;rw[Qg hlt]at hat;exact(Zgz _ _).1 (by simpa using hat)
 have hsplit:l=l.take (ZY l e)++e::l.drop (ZY l e+1):=by
  have h1:=List.take_append_drop (ZY l e) l;rw[List.drop_eq_getElem_cons hlt,he]at h1;exact h1.symm
 have hpw:(l.take (ZY l e)++e::l.drop (ZY l e+1)).Pairwise fun a b=>ZaJ a b<0:=by rw[←hsplit];exact h
 rw[List.pairwise_append]at hpw;have hc:=List.pairwise_cons.1 hpw.2.1
 have hx:x∈l↔x∈l.take (ZY l e)∨x=e∨x∈l.drop (ZY l e+1):=by
  conv=>lhs;rw[hsplit]
  rw[List.mem_append,List.mem_cons]
 rw[hx];unfold Zej ZjB;rw[List.mem_append]
 constructor
 ·rintro(h1|h1)
  ·exact⟨fun e2=>ZkL e (by have:=hpw.2.2 x h1 e List.mem_cons_self;rwa [e2]at this),.inl h1⟩
  ·exact⟨fun e2=>ZkL e (by have:=hc.1 x h1;rwa [e2]at this),.inr (.inr h1)⟩
 ·rintro⟨h1,h2|h2|h2⟩
  ·exact .inl h2
  ·exact absurd h2 h1
  ·exact .inr h2
end
/- Digraphs,plain:the rows hold just the arcs,whatever is added and dropped. -/
section
open Go.RowKit
theorem ZP (N:Nat) (a:HArc):Zq N a=true↔0≤a.f∧a.f<(N:Int)∧0≤a.t∧a.t<(N:Int)∧1≤a.kind∧a.kind≤3∧0≤a.label∧a.label≤1048575:=by
 simp only[Zq,Zap,Bool.and_eq_true,decide_eq_true_eq,and_assoc]
theorem ZaC (i n k l:Int) (a:HArc):(⟨i,n,k,l⟩:HArc)=a↔i=a.f∧n=a.t∧k=a.kind∧l=a.label:=by
 obtain⟨af,at',ak,al⟩:=a;simp
theorem Zgx (e:DEnd) (k l n:Int):e=⟨k,l,n⟩↔e.kind=k∧e.label=l∧e.node=n:=by
 obtain⟨ek,el,en⟩:=e;simp
structure DOk (N K:Nat) (q:List HArc) (out inn:List (List DEnd)):Prop where
 s:Z9 q
 r:∀a∈q,Zq N a=true
 lo:out.length=N
 li:inn.length=N
 so:∀l∈out,Zbq l
 si:∀l∈inn,Zbq l
 mo:∀(i:Nat) l,out[i]? =some l→∀e:DEnd,e∈l↔(⟨i,e.node,e.kind,e.label⟩:HArc)∈q
 mi:∀(i:Nat) l,inn[i]? =some l→∀e:DEnd,e∈l↔(⟨e.node,i,e.kind,e.label⟩:HArc)∈q
 fo:∀l∈out,l.length≤K
 fi:∀l∈inn,l.length≤K
 fq:q.length≤K
def ZdC (N:Nat) (q:List HArc) (a:HArc):List HArc:=if Zq N a=true then (if a∈q then q else Zcl a q) else q
def ZiF (N:Nat) (q:List HArc) (a:HArc):Int:=if Zq N a=true then (if a∈q then 4 else 0) else 1
def Zmy (q:List HArc) (a:HArc):Int:=if a∈q then 0 else 3
theorem Zbh {α:Type} {l:List α} {f:α→α} {i:Nat} {x:α} (h:x∈l.modify i f):x∈l∨∃y∈l,l[i]? =some y∧x=f y:=by
 obtain⟨k,hk,rfl⟩:=List.mem_iff_getElem.1 h;rw[List.length_modify]at hk;rw[List.getElem_modify]
 split
 ·next e=>subst e;exact .inr ⟨l[i],List.getElem_mem hk,Qg hk,rfl⟩
 ·exact .inl (List.getElem_mem hk)
theorem Zdn {l m:List (List DEnd)} {f:List DEnd→List DEnd} {i k:Nat} {r:List DEnd} (h:(l.modify i f)[k]? =some r):(k=i∧∃s,l[k]? =some s∧r=f s)∨(k≠i∧l[k]? =some r):=by
 rw[List.getElem?_modify]at h
 by_cases e:i=k
 ·subst e;simp only[if_true,Option.map_eq_map,Option.map_eq_some_iff]at h;obtain⟨s,h1,rfl⟩:=h;exact .inl ⟨rfl,s,h1,rfl⟩
 ·simp only[if_neg e]at h;exact .inr ⟨fun e2=>e e2.symm,by simpa using h⟩
theorem DOk.nil (N:Nat):DOk N 0 [] (List.replicate N []) (List.replicate N []):=by
 have hm:∀l∈List.replicate N ([]:List DEnd),l=[]:=fun l h=>(List.mem_replicate.1 h).2
 have hg:∀(i:Nat) l,(List.replicate N ([]:List DEnd))[i]? =some l→l=[]:=fun i l h=>hm l (List.mem_of_getElem? h)
 exact⟨List.Pairwise.nil,by simp,by simp,by simp,fun l h=>by rw[hm l h];exact List.Pairwise.nil,fun l h=>by rw[hm l h];exact List.Pairwise.nil,
  fun i l h e=>by rw[hg i l h];simp,fun i l h e=>by rw[hg i l h];simp,fun l h=>by rw[hm l h];simp,fun l h=>by rw[hm l h];simp,by simp⟩
section
variable {N K:Nat} {q:List HArc} {out inn:List (List DEnd)}
theorem DOk.mono (h:DOk N K q out inn) {K':Nat} (hk:K≤K'):DOk N K' q out inn:=
 {h with fo:=fun l hl=>Nat.le_trans (h.fo l hl) hk,fi:=fun l hl=>Nat.le_trans (h.fi l hl) hk,fq:=Nat.le_trans h.fq hk}
theorem DOk.has (h:DOk N K q out inn) (a:HArc):Zd6 out a=decide (a∈q):=by
 unfold Zd6;rw[h.lo]
 by_cases hr:Zq N a=true
 ·obtain⟨i,j,e1,e2,hi,hj⟩:=Zcs hr;have hil:i<out.length:=by rw[h.lo];exact hi
  rw[hr,e1];simp only[Int.toNat_natCast,Qg hil,Bool.true_and];rw[decide_eq_decide,h.mo i _ (Qg hil)];have:(⟨(i:Int),(Za6 a).node,(Za6 a).kind,(Za6 a).label⟩:HArc)=a:=by rw[ZaC];exact⟨e1.symm,rfl,rfl,rfl⟩
  rw[this]
 ·have hn:a∉q:=fun e=>hr (h.r a e)
  have hf:Zq N a=false:=by simpa using hr
  rw[hf,decide_eq_false hn];rfl
theorem DOk.addW_ (h:DOk N K q out inn) (a:HArc):ZdB out a=ZiF N q a:=by
 unfold ZdB ZiF;rw[h.has a,h.lo];simp only[decide_eq_true_eq]
theorem DOk.dropW_ (h:DOk N K q out inn) (a:HArc):ZjA out a=Zmy q a:=by
 unfold ZjA Zmy;rw[h.has a];simp only[decide_eq_true_eq]
theorem ZiU {l:List DEnd} (h:Zbq l) (e:DEnd):(Zex l e).length=l.length+1:=ZoM l e (Zcc h e)
theorem Zhp (l:List DEnd) (e:DEnd):(Zej l e).length≤l.length:=by
 unfold Zej ZjB;rw[List.length_append,List.length_take,List.length_drop];omega
theorem DOk.add (h:DOk N K q out inn) (a:HArc):DOk N (K+1) (ZdC N q a) (Zfs out a) (Zfu out inn a):=by
 unfold Zfs Zfu ZdC;rw[h.addW_ a];unfold ZiF
 by_cases hr:Zq N a=true
 ·by_cases hm:a∈q
  ·simp only[if_pos hr,if_pos hm,if_neg (show¬(4:Int)=0 by decide)];exact h.mono (by omega)
  ·simp only[if_pos hr,if_neg hm,if_true];obtain⟨i,j,e1,e2,hi,hj⟩:=Zcs hr;have hil:i<out.length:=by rw[h.lo];exact hi
   have hjl:j<inn.length:=by rw[h.li];exact hj
   rw[e1,e2];simp only[Int.toNat_natCast]
   have ao:∀s,out[i]? =some s→Za6 a∉s:=fun s hs=>by
    rw[h.mo i s hs];have:(⟨(i:Int),(Za6 a).node,(Za6 a).kind,(Za6 a).label⟩:HArc)=a:=by rw[ZaC];exact⟨e1.symm,rfl,rfl,rfl⟩
    rw[this];exact hm
   have ai:∀s,inn[j]? =some s→inE a∉s:=fun s hs=>by
    rw[h.mi j s hs];have:(⟨(inE a).node,(j:Int),(inE a).kind,(inE a).label⟩:HArc)=a:=by rw[ZaC];exact⟨rfl,e2.symm,rfl,rfl⟩
    rw[this];exact hm
   constructor
   case s=>exact Zdj a q h.s
   case r=>
    intro b hb;rcases(ZbK a b q).1 hb with rfl|hb
    ·exact hr
    ·exact h.r b hb
   case lo=>simpa using h.lo
   case li=>simpa using h.li
   case so=>
    intro l hl;rcases Zbh hl with hl|⟨y,hy,hy2,rfl⟩
    ·exact h.so l hl
    ·exact ZiT (h.so y hy) (ao y hy2)
   case si=>
    intro l hl;rcases Zbh hl with hl|⟨y,hy,hy2,rfl⟩
    ·exact h.si l hl
    ·exact ZiT (h.si y hy) (ai y hy2)
   case mo=>
    intro k l hl e;rcases Zdn (m:=[]) hl with ⟨rfl,s,hs,rfl⟩|⟨hne,hl⟩
    ·rw[Zkf,ZbK,h.mo k s hs,ZaC,show Za6 a=⟨a.kind,a.label,a.t⟩ from rfl,Zgx]
     constructor
     ·rintro(⟨x1,x2,x3⟩|x)
      ·exact .inl ⟨e1.symm,x3,x1,x2⟩
      ·exact .inr x
     ·rintro(⟨_,x1,x2,x3⟩|x)
      ·exact .inl ⟨x2,x3,x1⟩
      ·exact .inr x
    ·rw[ZbK,h.mo k l hl,ZaC]
     constructor
     ·exact .inr
     ·rintro(⟨x,_⟩|x)
      ·exact absurd (by omega) hne
      ·exact x
   case mi=>
    intro k l hl e;rcases Zdn (m:=[]) hl with ⟨rfl,s,hs,rfl⟩|⟨hne,hl⟩
    ·rw[Zkf,ZbK,h.mi k s hs,ZaC,show inE a=⟨a.kind,a.label,a.f⟩ from rfl,Zgx]
     constructor
     ·rintro(⟨x1,x2,x3⟩|x)
      ·exact .inl ⟨x3,e2.symm,x1,x2⟩
      ·exact .inr x
     ·rintro(⟨x1,_,x2,x3⟩|x)
      ·exact .inl ⟨x2,x3,x1⟩
      ·exact .inr x
    ·rw[ZbK,h.mi k l hl,ZaC]
     constructor
     ·exact .inr
     ·rintro(⟨_,x,_⟩|x)
      ·exact absurd (by omega) hne
      ·exact x
   case fo=>
    intro l hl;rcases Zbh hl with hl|⟨y,hy,hy2,rfl⟩
    ·have:=h.fo l hl;omega
    ·have:=h.fo y hy;rw[ZiU (h.so y hy)];omega
   case fi=>
    intro l hl;rcases Zbh hl with hl|⟨y,hy,hy2,rfl⟩
    ·have:=h.fi l hl;omega
    ·have:=h.fi y hy;rw[ZiU (h.si y hy)];omega
   case fq=>
    have:=Zj6 a q;have:=h.fq;omega
 ·simp only[if_neg hr,if_neg (show¬(1:Int)=0 by decide)];exact h.mono (by omega)
theorem DOk.addN_ (h:DOk N K q out inn) (a:HArc):Zft out (q.length:Int) a=((ZdC N q a).length:Int):=by
 unfold Zft ZdC;rw[h.addW_ a];unfold ZiF
 by_cases hr:Zq N a=true
 ·by_cases hm:a∈q
  ·simp[hr,hm]
  ·simp only[if_pos hr,if_neg hm,if_true,Zj5 a q hm];omega
 ·simp[hr]
theorem DOk.drop (h:DOk N K q out inn) (a:HArc):DOk N K (q.filter fun x=>x != a) (ZpY out a) (ZpZ out inn a):=by
 unfold ZpY ZpZ;rw[h.dropW_ a];unfold Zmy
 by_cases hm:a∈q
 ·simp only[if_pos hm,if_true];obtain⟨i,j,e1,e2,hi,hj⟩:=Zcs (h.r a hm);rw[e1,e2];simp only[Int.toNat_natCast]
  have ao:∀s,out[i]? =some s→Za6 a∈s:=fun s hs=>by
   rw[h.mo i s hs];have:(⟨(i:Int),(Za6 a).node,(Za6 a).kind,(Za6 a).label⟩:HArc)=a:=by rw[ZaC];exact⟨e1.symm,rfl,rfl,rfl⟩
   rw[this];exact hm
  have ai:∀s,inn[j]? =some s→inE a∈s:=fun s hs=>by
   rw[h.mi j s hs];have:(⟨(inE a).node,(j:Int),(inE a).kind,(inE a).label⟩:HArc)=a:=by rw[ZaC];exact⟨rfl,e2.symm,rfl,rfl⟩
   rw[this];exact hm
  constructor
  case s=>exact h.s.filter _
  case r=>exact fun b hb=>h.r b (List.mem_filter.1 hb).1
  case lo=>simpa using h.lo
  case li=>simpa using h.li
  case so=>
   intro l hl;rcases Zbh hl with hl|⟨y,hy,hy2,rfl⟩
   ·exact h.so l hl
   ·exact Zho (h.so y hy) _
  case si=>
   intro l hl;rcases Zbh hl with hl|⟨y,hy,hy2,rfl⟩
   ·exact h.si l hl
   ·exact Zho (h.si y hy) _
  case mo=>
   intro k l hl e;rw[List.mem_filter,bne_iff_ne];rcases Zdn (m:=[]) hl with ⟨rfl,s,hs,rfl⟩|⟨hne,hl⟩
   ·rw[Zi3 (h.so s (List.mem_of_getElem? hs)) (ao s hs),h.mo k s hs,and_comm];refine and_congr_right fun _=>not_congr ?_
    rw[ZaC,show Za6 a=⟨a.kind,a.label,a.t⟩ from rfl,Zgx]
    constructor
    ·rintro⟨x1,x2,x3⟩;exact⟨e1.symm,x3,x1,x2⟩
    ·rintro⟨_,x1,x2,x3⟩;exact⟨x2,x3,x1⟩
   ·rw[h.mo k l hl];refine⟨fun x=>⟨x,fun x2=> ?_⟩,fun x=>x.1⟩;rw[ZaC]at x2;exact hne (by omega)
  case mi=>
   intro k l hl e;rw[List.mem_filter,bne_iff_ne];rcases Zdn (m:=[]) hl with ⟨rfl,s,hs,rfl⟩|⟨hne,hl⟩
   ·rw[Zi3 (h.si s (List.mem_of_getElem? hs)) (ai s hs),h.mi k s hs,and_comm];refine and_congr_right fun _=>not_congr ?_
    rw[ZaC,show inE a=⟨a.kind,a.label,a.f⟩ from rfl,Zgx]
    constructor
    ·rintro⟨x1,x2,x3⟩;exact⟨x3,e2.symm,x1,x2⟩
    ·rintro⟨x1,_,x2,x3⟩;exact⟨x2,x3,x1⟩
   ·rw[h.mi k l hl];refine⟨fun x=>⟨x,fun x2=> ?_⟩,fun x=>x.1⟩;rw[ZaC]at x2;exact hne (by omega)
  case fo=>
   intro l hl;rcases Zbh hl with hl|⟨y,hy,hy2,rfl⟩
   ·exact h.fo l hl
   ·exact Nat.le_trans (Zhp _ _) (h.fo y hy)
  case fi=>
   intro l hl;rcases Zbh hl with hl|⟨y,hy,hy2,rfl⟩
   ·exact h.fi l hl
   ·exact Nat.le_trans (Zhp _ _) (h.fi y hy)
  case fq=>exact Nat.le_trans (List.length_filter_le _ _) h.fq
 ·simp only[if_neg hm,if_neg (show¬(3:Int)=0 by decide)];rw[List.filter_eq_self.2 (fun x hx=>by rw[bne_iff_ne];exact fun e=>hm (e▸hx))];exact h
theorem DOk.ko (h:DOk N K q out inn):ZhS out:=fun l hl e he=>by
 obtain⟨i,hi,rfl⟩:=List.mem_iff_getElem.1 hl;have:=h.r _ ((h.mo i _ (Qg hi) e).1 he);rw[ZP]at this;exact⟨this.2.2.2.2.1,this.2.2.2.2.2.1⟩
theorem DOk.ki (h:DOk N K q out inn):ZhS inn:=fun l hl e he=>by
 obtain⟨i,hi,rfl⟩:=List.mem_iff_getElem.1 hl;have:=h.r _ ((h.mi i _ (Qg hi) e).1 he);rw[ZP]at this;exact⟨this.2.2.2.2.1,this.2.2.2.2.2.1⟩
def ofA (mask:Int) (q:List HArc):List HArc:=q.filter fun x=>Zt mask x.kind
theorem mem_ofA {mask:Int} {q:List HArc} {x:HArc}:x∈ofA mask q↔x∈q∧Zt mask x.kind=true:=by unfold ofA;rw[List.mem_filter]
theorem DOk.mem_outD (h:DOk N K q out inn) (mask i:Int) (x:HArc):x∈Zez mask out i↔x∈q∧Zt mask x.kind=true∧x.f=i:=by
 unfold Zez
 by_cases hb:Zap out.length i=true
 ·rw[if_pos hb];simp only[Zap,Bool.and_eq_true,decide_eq_true_eq]at hb;obtain⟨j,rfl⟩:∃j:Nat,i=(j:Int):=⟨i.toNat,by omega⟩;have hj:j<out.length:=by omega
  simp only[Int.toNat_natCast,Qg hj];unfold Zcd;rw[List.mem_map]
  constructor
  ·rintro⟨e,he,rfl⟩;rw[List.mem_filter]at he;exact⟨(h.mo j _ (Qg hj) e).1 he.1,he.2,rfl⟩
  ·rintro⟨h1,h2,h3⟩;refine⟨⟨x.kind,x.label,x.t⟩,?_,by rw[ZaC];exact⟨h3.symm,rfl,rfl,rfl⟩⟩;rw[List.mem_filter,h.mo j _ (Qg hj)];refine⟨?_,h2⟩;have:(⟨(j:Int),x.t,x.kind,x.label⟩:HArc)=x:=by rw[ZaC];exact⟨h3.symm,rfl,rfl,rfl⟩
   rw[this];exact h1
 ·rw[if_neg hb];simp only[List.not_mem_nil,false_iff];rintro⟨h1,_,h3⟩;have:=(ZP _ _).1 (h.r x h1)
  apply hb
  simp only[Zap,Bool.and_eq_true,decide_eq_true_eq,h.lo];omega
theorem DOk.sorted_outD (h:DOk N K q out inn) (mask i:Int):Z9 (Zez mask out i):=by
 unfold Zez
 split
 ·next l hl=>
  split at hl
  ·have hr:=h.so l (List.mem_of_getElem? hl);unfold Zcd Z9;rw[List.pairwise_map];refine(hr.filter _).imp fun {a b} hab=> ?_
   show ZaY ⟨i,a.node,a.kind,a.label⟩ ⟨i,b.node,b.kind,b.label⟩=true
   rw[ZcN];rw[Zgy]at hab
   show i<i∨(i=i∧(a.kind<b.kind∨(a.kind=b.kind∧(a.label<b.label∨(a.label=b.label∧a.node<b.node)))))
   exact .inr ⟨rfl,hab⟩
  ·cases hl
 ·exact List.Pairwise.nil
theorem DOk.outD_ (h:DOk N K q out inn) (mask i:Int):Zez mask out i=(ofA mask q).filter fun x=>x.f==i:=
 Zl0 (h.sorted_outD mask i) ((h.s.filter _).filter _) fun x=>by
  rw[h.mem_outD,List.mem_filter,mem_ofA,beq_iff_eq,and_assoc]
theorem Zo0 (mask:Int) (ls:List (List DEnd)) (i:Int):(Zdl mask ls i).Pairwise (·<·):=by
 unfold Zdl
 split
 ·unfold Zd2;rw[ZcU];exact Zbx _
 ·exact List.Pairwise.nil
theorem Zmc (mask:Int) (l:List DEnd) (v:Int):v∈Zd2 mask l↔∃e∈l,Zt mask e.kind=true∧v=e.node:=by
 unfold Zd2;rw[ZcU,Zb6];unfold ZcY;rw[List.mem_map]
 constructor
 ·rintro⟨e,he,rfl⟩;rw[List.mem_filter]at he;exact⟨e,he.1,he.2,rfl⟩
 ·rintro⟨e,h1,h2,rfl⟩;exact⟨e,List.mem_filter.2 ⟨h1,h2⟩,rfl⟩
theorem DOk.mem_prev (h:DOk N K q out inn) (mask i v:Int):v∈Zdl mask inn i↔∃x∈ofA mask q,x.t=i∧v=x.f:=by
 unfold Zdl
 by_cases hb:Zap inn.length i=true
 ·rw[if_pos hb];simp only[Zap,Bool.and_eq_true,decide_eq_true_eq]at hb;obtain⟨j,rfl⟩:∃j:Nat,i=(j:Int):=⟨i.toNat,by omega⟩;have hj:j<inn.length:=by omega
  simp only[Int.toNat_natCast,Qg hj];rw[Zmc]
  constructor
  ·rintro⟨e,h1,h2,rfl⟩;exact⟨_,mem_ofA.2 ⟨(h.mi j _ (Qg hj) e).1 h1,h2⟩,rfl,rfl⟩
  ·rintro⟨x,h1,h3,rfl⟩;rw[mem_ofA]at h1;refine⟨⟨x.kind,x.label,x.f⟩,?_,h1.2,rfl⟩;rw[h.mi j _ (Qg hj)];have:(⟨x.f,(j:Int),x.kind,x.label⟩:HArc)=x:=by rw[ZaC];exact⟨rfl,h3.symm,rfl,rfl⟩
   rw[this];exact h1.1
 ·rw[if_neg hb];simp only[List.not_mem_nil,false_iff];rintro⟨x,h1,h3,_⟩;rw[mem_ofA]at h1;have:=(ZP _ _).1 (h.r x h1.1)
  apply hb
  simp only[Zap,Bool.and_eq_true,decide_eq_true_eq,h.li];omega
theorem DOk.prev_ (h:DOk N K q out inn) (mask i:Int):Zdl mask inn i=nxA i true (ofA mask q):=
 ZoB (Zo0 _ _ _) (Znr _ _ _ _ List.Pairwise.nil) fun v=>by
  rw[h.mem_prev];unfold nxA;rw[Zgr];simp
end
end
/- Digraphs:the contracts by the arcs alone,nil or not. -/
section
open Go.RowKit
theorem Zr3 (w:World) (i mask:Int):Calls Tryz.prog 132 #[.pointer none,.int .i64 i,.int .i64 mask] w (Zfv w []):=by
 have HN:=Qh (ZkE w i)
 go_enter Tryz.func132,Tryz.ntmps132
 go_wp2_with fail
 refine(HN.out).mono ?_;rintro e w1 ⟨rfl,rfl⟩;go_wp2
 go_ret
 exact Zkd _ _ (Upd.refl _ _)
theorem Ztb (w:World) (i mask:Int):Calls Tryz.prog 94 #[.pointer none,.int .i64 i,.int .i64 mask] w (ZkT w []):=by
 have HN:=Qh (ZkE w i)
 go_enter Tryz.func94,Tryz.ntmps94
 go_wp2_with fail
 refine(HN.out).mono ?_;rintro e w1 ⟨rfl,rfl⟩;go_wp2
 go_ret
 exact⟨none,0,rfl,World.ownsRow_nil _ _ _ _,Upd.refl _ _⟩
def DGs (w:World) (G:Nat→Prop) (g N K:Nat) (q:List HArc):Prop:=
 ∃out inn ob ib oh ih base,GIs w G g out inn (q.length:Int) ob ib oh ih base∧DOk N K q out inn∧base≤w.heap.size
def DG (w:World) (G:Nat→Prop) (p:Option Addr) (N K:Nat) (q:List HArc):Prop:=
 (p=none∧N=0∧q=[])∨∃g,p=some ⟨g,0,none⟩∧DGs w G g N K q
def DTs (w:World) (G:Nat→Prop) (p:Option Addr) (N K:Nat) (q:List HArc) (r:Value) (e:Ending) (w':World):Prop:=
 ∃G',e= .returned r∧DG w' G' p N K q∧Upd G w w'∧∀k,G' k→G k∨w.heap.size≤k
def Ztq (w:World) (N K:Nat) (q:List HArc) (e:Ending) (w':World):Prop:=
 ∃G g,e= .returned (.pointer (some ⟨g,0,none⟩))∧DG w' G (some ⟨g,0,none⟩) N K q∧Upd No w w'∧∀k,G k→w.heap.size≤k
theorem DG.nil (w:World) (G:Nat→Prop):DG w G none 0 0 []:= .inl ⟨rfl,rfl,rfl⟩
section
variable {w:World} {G:Nat→Prop} {p:Option Addr} {N K:Nat} {q:List HArc}
theorem DG.upd (h:DG w G p N K q) {S:Nat→Prop} {w':World} (k:Upd S w w') (hn:∀i,G i→¬S i):DG w' G p N K q:=by
 rcases h with h|⟨g,rfl,out,inn,ob,ib,oh,ih,base,h1,h2,h3⟩
 ·exact .inl h
 ·exact .inr ⟨g,rfl,out,inn,ob,ib,oh,ih,base,h1.upd k hn,h2,Nat.le_trans h3 k.size⟩
theorem DG.no (h:DG w G p N K q) {w':World} (k:Upd No w w'):DG w' G p N K q:=h.upd k fun _ _=>id
theorem DG.sorted (h:DG w G p N K q):Z9 q:=by
 rcases h with ⟨_,_,rfl⟩|⟨g,rfl,out,inn,ob,ib,oh,ih,base,h1,h2,h3⟩
 ·exact List.Pairwise.nil
 ·exact h2.s
theorem DG.right (h:DG w G p N K q):∀a∈q,Zq N a=true:=by
 rcases h with ⟨_,_,rfl⟩|⟨g,rfl,out,inn,ob,ib,oh,ih,base,h1,h2,h3⟩
 ·simp
 ·exact h2.r
theorem DG.few (h:DG w G p N K q):q.length≤K:=by
 rcases h with ⟨_,_,rfl⟩|⟨g,rfl,out,inn,ob,ib,oh,ih,base,h1,h2,h3⟩
 ·simp
 ·exact h2.fq
theorem DG.nodes_le (h:DG w G p N K q):N≤4096:=by
 rcases h with ⟨_,rfl,rfl⟩|⟨g,rfl,out,inn,ob,ib,oh,ih,base,h1,h2,h3⟩
 ·omega
 ·have:=h1.few.1;have:=h2.lo;omega
theorem DG.old (h:DG w G p N K q) (hp:p≠none):∀k,G k→k<w.heap.size:=by
 rcases h with ⟨rfl,_,rfl⟩|⟨g,rfl,out,inn,ob,ib,oh,ih,base,h1,h2,h3⟩
 ·exact absurd rfl hp
 ·exact h1.old
theorem Zgw (h:DG w G p N K q):Calls Tryz.prog 129 #[.pointer p] w fun e w'=>e= .returned (.int .i64 (N:Int))∧w=w':=by
 rcases h with ⟨rfl,rfl,rfl⟩|⟨g,rfl,out,inn,ob,ib,oh,ih,base,h1,h2,h3⟩
 ·exact ZlJ w
 ·rw[←h2.lo];exact ZnW h1
theorem ZkG (h:DG w G p N K q) (i mask:Int):Calls Tryz.prog 132 #[.pointer p,.int .i64 i,.int .i64 mask] w (Zfv w (nxA i true (ofA mask q))):=by
 rcases h with ⟨rfl,rfl,rfl⟩|⟨g,rfl,out,inn,ob,ib,oh,ih,base,h1,h2,h3⟩
 ·exact Zr3 w i mask
 ·rw[←h2.prev_];exact Zs9 h1 h2.ki i mask
theorem Zp1 (h:DG w G p N K q) (i mask:Int):Calls Tryz.prog 94 #[.pointer p,.int .i64 i,.int .i64 mask] w (ZkT w ((ofA mask q).filter fun x=>x.f==i)):=by
 rcases h with ⟨rfl,rfl,rfl⟩|⟨g,rfl,out,inn,ob,ib,oh,ih,base,h1,h2,h3⟩
 ·exact Ztb w i mask
 ·rw[←h2.outD_];exact ZtN h1 h2.ko i mask
theorem Ztg (h:DG w G p N K q) (hK:K<100000) (a:HArc):Calls Tryz.prog 90 #[.pointer p,.agg a.cells.toArray] w (DTs w G p N (K+1) (ZdC N q a) (.int .i64 (ZiF N q a))):=by
 rcases h with ⟨rfl,rfl,rfl⟩|⟨g,rfl,out,inn,ob,ib,oh,ih,base,h1,h2,h3⟩
 ·have hr:¬Zq 0 a=true:=fun e=>by rw[ZP]at e;omega
  refine(Zth w a).mono ?_;rintro e w' ⟨rfl,hu⟩;exact⟨G,by unfold ZiF;rw[if_neg hr],.inl ⟨rfl,rfl,by unfold ZdC;rw[if_neg hr]⟩,hu.mono (fun _ _ e=>e.elim),fun _ e=> .inl e⟩
 ·have hq:=h2.fq;refine(ZtS (n:=q.length) h1 h2.so h2.si ⟨fun l hl=>by have:=h2.fo l hl;omega,fun l hl=>by have:=h2.fi l hl;omega⟩ (by omega) h3 a).mono ?_;rintro e w' ⟨G',oh',ih',rfl,k1,k2,k3⟩;rw[h2.addN_]at k1;exact⟨G',by rw[h2.addW_],.inr ⟨g,rfl,_,_,_,_,_,_,_,k1,h2.add a,Nat.le_trans h3 k2.size⟩,k2,k3⟩
end
theorem Ztf (w:World) (n:Int):Calls Tryz.prog 89 #[.int .i64 n] w (Ztq w (ZcV n) 0 []):=by
 refine(ZtO w n).mono ?_;rintro e w' ⟨G,g,ob,ib,oh,ih,rfl,h1,h2,h3⟩;exact⟨G,g,rfl,.inr ⟨g,rfl,_,_,_,_,_,_,_,h1,DOk.nil _,Nat.le_refl _⟩,h2,h3⟩
end
/- Digraphs:the law of both sides. -/
section
open Go.RowKit
def DMa (w:World) (g N K:Nat) (q:List HArc) (W:World):Prop:=
 ∃G,DG W G (some ⟨g,0,none⟩) N K q∧Upd No w W∧∀k,G k→w.heap.size≤k
namespace DMa
variable {w W W':World} {g N K:Nat} {q:List HArc}
theorem no (h:DMa w g N K q W) (k:Upd No W W'):DMa w g N K q W':=by
 obtain⟨G,h1,h2,h3⟩:=h;exact⟨G,h1.no k,h2.trans k,h3⟩
theorem upd (h:DMa w g N K q W):Upd No w W:=by
 obtain⟨G,h1,h2,h3⟩:=h;exact h2
theorem is (h:DMa w g N K q W):∃G,DG W G (some ⟨g,0,none⟩) N K q:=by
 obtain⟨G,h1,h2,h3⟩:=h;exact⟨G,h1⟩
end DMa
theorem Zg3 (node:Int) (back:Bool) (p:List HArc):(nxA node back p).length≤p.length:=by
 have:=Zlx node back p []
 simpa[nxA]using this
theorem Zgh {w:World} {base c:Nat} {A:Option Addr} {l:List HArc} (h:w.ownsRow base 102 4 (.slice A l.length c) l.length (Zbt l)):ArcsL (Own (.slice A l.length c)) w A l:=Recs.of_own (n:=l.length) (c:=c) (Zq7 l) (by omega) h
end
end Go.Proofs.YticmndpiehinjaaGreat
