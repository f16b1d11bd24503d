/- Digraphs: the nodes of some ends. -/
import Derived.Laws.StructEq
import Derived.Test.YtonblekdfinpkaaGreatSxaf
import Derived.Test.YtonblekdfinpkaaGreatSxai
import Derived.Test.YtonblekdfinpkaaGreatSxan
import Derived.Test.YtonblekdfinpkaaGreatSxay
import Derived.Test.YtonblekdfinpkaaGreatSxaz
import Derived.Test.YtonblekdfinpkaaGreatSxbf
namespace Go.Proofs.YtonblekdfinpkaaGreat
set_option linter.unusedVariables false
set_option linter.unusedSimpArgs false
section
open Go.RowKit
def Zcp (mask:Int) (l:List DEnd):List Int:=(l.filter fun e=>ZS mask e.kind).map (·.node)
def Zdx (mask:Int) (l:List DEnd):List Int:=Lib.compact (ZD (Zcp mask l))
theorem ZmR {mask:Int} {l:List DEnd} {k:Nat} {x:DEnd} (hk:k<l.length) (hx:l[k]=x) (hr:ZS mask x.kind=true):Zcp mask (l.take (k+1))=Zcp mask (l.take k)++[x.node]:=by
 subst hx;unfold Zcp;rw[List.take_succ_eq_append_getElem hk,List.filter_append,List.map_append,List.filter_cons_of_pos (by rw[hr])];rfl
theorem Zop {mask:Int} {l:List DEnd} {k:Nat} {x:DEnd} (hk:k<l.length) (hx:l[k]=x) (hr:ZS mask x.kind=false):Zcp mask (l.take (k+1))=Zcp mask (l.take k):=by
 subst hx;unfold Zcp;rw[List.take_succ_eq_append_getElem hk,List.filter_append,List.map_append,List.filter_cons_of_neg (by rw[hr];decide)];simp
theorem Ztg (w:World) (mask kind:Int) (h1:1≤kind) (h2:kind≤3):Calls Tryz.prog 218 #[.int .i64 mask,.int .i64 kind] w fun e w'=>e= .returned (.bool (ZS mask kind))∧Upd No w w':=
 (dof w mask kind h1 h2).mono fun _ _ h=>⟨h.1,h.2▸Upd.refl No w⟩
set_option maxRecDepth 100000 in
set_option maxHeartbeats 1000000 in
theorem Zso (F:Nat→Prop) (w:World) (mask:Int) (A:Option Addr) (c:Nat) (l:List DEnd) (h:DEnds F w A l) (hkd:∀e∈l,1≤e.kind∧e.kind≤3) (hl:l.length≤1000000):
  Calls Tryz.prog 177 #[.slice A l.length c,.int .i64 mask] w (Zc2 w (Zdx mask l)):=by
 go_enter Tryz.func177,Tryz.ntmps177
 go_wp2
 go_loopg [5,10] l.length (fun gk s i wr=>∃(k:Nat) (A5:Option Addr) (c5:Nat) (xs:List Int),k+gk=l.length∧i= .int .i64 k∧s= .slice A5 xs.length c5∧Hid (xs=Zcp mask (l.take k))∧xs.length≤k∧
  wr.ownsRow w.heap.size 3 1 (.slice A5 xs.length c5) xs.length (xs.map (Value.int .i64))∧Upd No w wr)
 case atStart=>exact⟨0,none,0,[],by omega,rfl,rfl,Qh (by simp[Zcp]),by simp,World.ownsRow_nil _ _ _ _,Upd.refl _ _⟩
 case round=>
  obtain⟨k,A5,c5,xs,hgk,rfl,rfl,hxs,hxl,hown,hu⟩:=hrel
  by_cases hlt:k<l.length
  ·obtain⟨ad,hAd,q0,q1,q2⟩:=(h.upd hu (fun _ _=>id)).at_ hlt;obtain⟨hk1,hk2⟩:=hkd _ (List.getElem_mem hlt);obtain⟨x,hx⟩:∃x,l[k]=x:=⟨_,rfl⟩;rw[hx]at q0 q1 q2 hk1 hk2;subst hAd;have X:=Qh hx;clear hx;have b1:(0:Int)≤(k:Int):=Qn _;have b2:(k:Int)<(l.length:Int):=by omega
   have uA:=(Upd.refl No wr).alloc (.cells #[.int .i64 x.kind,.int .i64 x.label,.int .i64 x.node] 92);have bo:=Blk.new wr 92 [.int .i64 x.kind,.int .i64 x.label,.int .i64 x.node];have hown1:=Zb hown uA (fun _ _=>id);have g0:=bo.cell 0;simp only[Qz]at g0;have hof:=Qh (fun W=>Ztg W mask x.kind hk1 hk2)
   cases hr:ZS mask x.kind
   ·rw[hr]at hof;have HS:=Qh (Zop hlt X.out hr);clear hr
    go_wp2_with fail
    refine(hof.out _).mono ?_;rintro e w1 ⟨rfl,hu1⟩;have Hu1:=Qh ((hu.trans uA).trans hu1);have hown2:=Zb hown1 hu1 (fun _ _=>id);clear hown1 uA hu1;go_wp2
    go_roundg (gk-1)
    case measure=>omega
    case rel=>exact⟨k+1,A5,c5,xs,by omega,by go_num,rfl,Qh (by rw[HS.out,hxs.out]),by omega,hown2,Hu1.out⟩
   ·rw[hr]at hof;have HS:=Qh (ZmR hlt X.out hr);clear hr
    go_wp2_with fail
    refine(hof.out _).mono ?_;rintro e w1 ⟨rfl,hu1⟩;have bo1:=bo.upd hu1 id;have g1:=bo1.cell 2;simp only[Qz,Qs]at g1;have hown2:=Zb hown1 hu1 (fun _ _=>id);have hz1:=(uA.trans hu1).size;have hz0:=hu.size;have Hu1:=Qh ((hu.trans uA).trans hu1);clear hown1 uA hu1
    go_wp2_with (at_builtin;refine ZbT rfl rfl Za1 (v:= .slice A5 xs.length c5) (cells:=[.int .i64 x.node]) (by rfl) rfl hown2 rfl rfl (by omega) (by omega) (by omega) ?_;intro g' c' w2 hown3 hu3 hg3 hlt3)
    go_roundg (gk-1)
    case measure=>omega
    case rel=>
     refine⟨k+1,some ⟨g',0,none⟩,c',xs++[x.node],by omega,by go_num,by simp,Qh (by rw[HS.out,hxs.out]),by simp;omega,by simpa using hown3,Hu1.out.then_ hu3 fun i e=> ?_⟩;exact .inr (hown2.lt i e).1
  ·obtain rfl:k=l.length:=by omega
   have Hx:=Qh (show xs=Zcp mask l by rw[hxs.out,List.take_length]);clear hxs;have hsl:=Qh (Zcc xs);have Hk:=Qh (show Lib.compact (ZD xs)=Zdx mask l by rw[Hx.out];rfl)
   go_wp2_with fail
   refine(Zg7 _ _ A5 c5 xs hown (by omega)).mono ?_;rintro e w1 ⟨rfl,ho1,hu1⟩;have ho1':w1.ownsRow w.heap.size 3 1 (.slice A5 (ZD xs).length c5) (ZD xs).length ((ZD xs).map (Value.int .i64)):=by rw[hsl.out];exact ho1
   have hic:=ZjT w1 w.heap.size A5 c5 (ZD xs) ho1' (by rw[hsl.out];omega);rw[Hk.out,hsl.out]at hic;have Hic:=Qh hic;have hge:=Qh (show∀i,Own (.slice A5 xs.length c5) i→w.heap.size≤i from fun i e=>(hown.lt i e).1);clear hic ho1 ho1' hown
   go_wp2_with fail
   refine(Hic.out).mono ?_;rintro e w2 ⟨rfl,ho2,hu2⟩;go_wp2
   go_ret
   exact⟨A5,c5,rfl,ho2,(hu.then_ hu1 fun i e=> .inr (hge.out i e)).then_ hu2 fun i e=> .inr (hge.out i e)⟩
end
/- Digraphs:the nodes next to one,and those ahead of it. -/
section
open Go.RowKit
def ZcI (mask:Int) (ls:List (List DEnd)) (i:Int):List Int:=match (if Zat ls.length i then ls[i.toNat]? else none)with|some l=>Zdx mask l|none=>[]
def ZjR (ls:List (List DEnd)):Prop:=∀l∈ls,∀e∈l,1≤e.kind∧e.kind≤3
theorem ZjF (w w':World) (u:Upd No w w'):Zc2 w [] (.returned (.slice none 0 0)) w':=⟨none,0,rfl,World.ownsRow_nil _ _ _ _,u⟩
section
variable {w:World} {G:Nat→Prop} {g:Nat} {out inn:List (List DEnd)} {n:Int} {ob ib:Nat} {oh ih:List Value} {base:Nat}
set_option maxRecDepth 100000 in
theorem Zsp (h:GIs w G g out inn n ob ib oh ih base) (hk:ZjR out) (i mask:Int):Calls Tryz.prog 107 #[.pointer (some ⟨g,0,none⟩),.int .i64 i,.int .i64 mask] w (Zc2 w (ZcI mask out i)):=by
 have HN:=Qh (Zpx h i)
 by_cases hb:Zat out.length i=true
 ·have hb':=hb;simp only[Zat,Bool.and_eq_true,decide_eq_true_eq]at hb';obtain⟨j,rfl⟩:∃j:Nat,i=(j:Int):=⟨i.toNat,by omega⟩;have hj:j<out.length:=by omega
  obtain⟨A,c,hoi,hown⟩:=h.ro.2 j hj;have hv:=Qh (show ZcI mask out (j:Int)=Zdx mask out[j] by unfold ZcI;rw[if_pos hb];simp[Qg hj]);have c0:=h.blk.cell 0;have c1:w.cell? ⟨ob,j,none⟩=some (.slice A out[j].length c):=by rw[h.ob_.cell j];exact hoi
  have hc:=Qh (Zso _ w mask A c out[j] (Zfn hown) (hk _ (List.getElem_mem hj)) (Nat.le_trans (h.few.2.1 _ (List.getElem_mem hj)) (by omega)));have k1:(0:Int)≤(j:Int):=Qn _;have k2:(j:Int)<(out.length:Int):=by omega
  simp only[Qz]at c0;rw[hb]at HN;clear hb hb' hoi hown h hk
  go_enter Tryz.func107,Tryz.ntmps107
  go_wp2_with fail
  refine(HN.out).mono ?_;rintro e w1 ⟨rfl,rfl⟩
  go_wp2_with fail
  refine(hc.out).mono ?_;rintro e w2 ⟨A2,c2,rfl,ho,hu⟩;go_wp2
  go_ret
  rw[hv.out];exact⟨A2,c2,rfl,ho,hu⟩
 ·have hb':Zat out.length i=false:=by simpa using hb
  have hv:=Qh (show ZcI mask out i=[] by unfold ZcI;rw[if_neg hb]);rw[hb']at HN;clear hb hb' h hk
  go_enter Tryz.func107,Tryz.ntmps107
  go_wp2_with fail
  refine(HN.out).mono ?_;rintro e w1 ⟨rfl,rfl⟩;go_wp2
  go_ret
  rw[hv.out];exact ZjF _ _ (Upd.refl _ _)
end
end
/- Digraphs:the arcs that go out of a node. -/
section
open Go.RowKit
theorem ZpX:SlT Tryz.prog 183 34 4 32:=SlT.mk_ Tryz.underlying183 (z:= .agg #[.int .i64 0,.int .i64 0,.int .i64 0,.int .i64 0]) (by kernel_rfl) rfl (by omega)
def ZfS (l:List HArc):List Value:=(l.map HArc.cells).flatten
section
variable {w:World} {G:Nat→Prop} {g:Nat} {out inn:List (List DEnd)} {n:Int} {ob ib:Nat} {oh ih:List Value} {base:Nat}
end
end
/- Digraphs:all arcs. -/
section
open Go.RowKit
theorem ZqH (l:List HArc):∀r∈l.map HArc.cells,r.length=4:=by
 intro r hr;rw[List.mem_map]at hr;obtain⟨a,_,rfl⟩:=hr;rfl
section
variable {w:World} {G:Nat→Prop} {g:Nat} {out inn:List (List DEnd)} {n:Int} {ob ib:Nat} {oh ih:List Value} {base:Nat}
end
end
/- Digraphs:lists of arcs;when two are one. -/
section
open Go.RowKit
def ArcsL (F:Nat→Prop) (w:World) (A:Option Addr) (l:List HArc):Prop:=Recs F w A 4 (l.map HArc.cells)
theorem ArcsL.at_ {F:Nat→Prop} {w:World} {A:Option Addr} {l:List HArc} (h:ArcsL F w A l) {k:Nat} (hk:k<l.length):∃ad,A=some ad∧
  w.cell? (ad.add (k*4))=some (.int .i64 l[k].f)∧w.cell? ⟨(ad.add (k*4)).block,(ad.add (k*4)).off+1,none⟩=some (.int .i64 l[k].t)∧
  w.cell? ⟨(ad.add (k*4)).block,(ad.add (k*4)).off+2,none⟩=some (.int .i64 l[k].kind)∧w.cell? ⟨(ad.add (k*4)).block,(ad.add (k*4)).off+3,none⟩=some (.int .i64 l[k].label):=by
 have hk':k<(l.map HArc.cells).length:=by simpa using hk
 obtain⟨ad,e,_,_,hc⟩:=Recs.at_ h hk';rw[List.getElem_map]at hc;exact⟨ad,e,by simpa using hc 0 _ rfl,by simpa using hc 1 _ rfl,by simpa using hc 2 _ rfl,by simpa using hc 3 _ rfl⟩
theorem ArcsL.upd {F S:Nat→Prop} {w w':World} {A:Option Addr} {l:List HArc} (h:ArcsL F w A l) (k:Upd S w w') (hn:∀i,F i→¬S i):ArcsL F w' A l:=Recs.upd h k hn
end
/- The document's digraph:the order of arcs;how many nodes there may be. -/
section
open Go.RowKit
def ZbR (a b:HArc):Bool:=if a.f=b.f then (if a.kind=b.kind then (if a.label=b.label then decide (a.t<b.t) else decide (a.label<b.label)) else decide (a.kind<b.kind)) else decide (a.f<b.f)
end
/- A nil digraph. -/
section
open Go.RowKit
theorem Zlc (w:World):Calls Tryz.prog 105 #[.pointer none] w fun e w'=>e= .returned (.int .i64 0)∧w=w':=by
 go_enter Tryz.func105,Tryz.ntmps105
 go_wp2
 go_ret
 exact⟨rfl,rfl⟩
theorem ZnC (w:World) (i:Int):Calls Tryz.prog 101 #[.pointer none,.int .i64 i] w fun e w'=>e= .returned (.bool false)∧w=w':=by
 have HN:=Qh (Zlc w)
 by_cases h0:0≤i
 ·have hb:decide (i<0)=false:=decide_eq_false (by omega)
  go_enter Tryz.func101,Tryz.ntmps101
  go_wp2_with fail
  refine(HN.out).mono ?_;rintro e w1 ⟨rfl,rfl⟩;go_wp2
  go_ret
  exact⟨by simp,rfl⟩
 ·have hb:decide (0≤i)=false:=decide_eq_false h0;clear h0
  go_enter Tryz.func101,Tryz.ntmps101
  go_wp2
  go_ret
  exact⟨rfl,rfl⟩
theorem Zry (w:World) (i mask:Int):Calls Tryz.prog 107 #[.pointer none,.int .i64 i,.int .i64 mask] w (Zc2 w []):=by
 have HN:=Qh (ZnC w i)
 go_enter Tryz.func107,Tryz.ntmps107
 go_wp2_with fail
 refine(HN.out).mono ?_;rintro e w1 ⟨rfl,rfl⟩;go_wp2
 go_ret
 exact ZjF _ _ (Upd.refl _ _)
theorem ZqA (w:World) (a:HArc):Calls Tryz.prog 48 #[.pointer none,.agg a.cells.toArray] w fun e w'=>e= .returned (.bool false)∧Upd No w w':=by
 have HN:=Qh (fun W=>ZnC W a.f);have U0:=Qh ((Upd.refl No w).alloc (.cells a.cells.toArray 34));unfold HArc.cells at*
 go_enter Tryz.func48,Tryz.ntmps48
 go_wp2_with fail
 refine(HN.out _).mono ?_;rintro e w1 ⟨rfl,rfl⟩;go_wp2
 go_ret
 exact⟨rfl,U0.out⟩
theorem Zsw (w:World) (a:HArc):Calls Tryz.prog 12 #[.pointer none,.agg a.cells.toArray] w fun e w'=>e= .returned (.int .i64 1)∧Upd No w w':=by
 have HN:=Qh (fun W=>ZqA W a);have U0:=Qh ((Upd.refl No w).alloc (.cells a.cells.toArray 34));unfold HArc.cells at*
 go_enter Tryz.func12,Tryz.ntmps12
 go_wp2_with fail
 refine(HN.out _).mono ?_;rintro e w1 ⟨rfl,hu⟩;have HU:=Qh (U0.out.trans hu);clear hu;go_wp2
 go_ret
 exact⟨rfl,HU.out⟩
end
/- Digraphs,plain:arcs in order,and the rows that hold them. -/
section
open Go.RowKit
/-! lists in strict order -/
theorem ZbG {α:Type} {r:α→α→Prop} (irr:∀a,¬r a a) (tr:∀a b c,r a b→r b c→r a c):∀{l m:List α},l.Pairwise r→m.Pairwise r→(∀x,x∈l↔x∈m)→l=m
 |[],[],_,_,_=>rfl
 |[],b::m,_,_,h=>absurd ((h b).2 List.mem_cons_self) (by simp)
 |a::l,[],_,_,h=>absurd ((h a).1 List.mem_cons_self) (by simp)
 |a::l,b::m,hl,hm,h=>by
  have hl':=List.pairwise_cons.1 hl;have hm':=List.pairwise_cons.1 hm
  have hab:a=b:=by
   rcases List.mem_cons.1 ((h a).1 List.mem_cons_self)with e|e
   ·exact e
   rcases List.mem_cons.1 ((h b).2 List.mem_cons_self)with f|f
   ·exact f.symm
   exact absurd (tr _ _ _ (hm'.1 a e) (hl'.1 b f)) (irr b)
  subst hab
  have:l=m:=ZbG irr tr hl'.2 hm'.2 fun x=>by
   constructor
   ·intro hx;rcases List.mem_cons.1 ((h x).1 (List.mem_cons_of_mem _ hx))with e|e
    ·subst e;exact absurd (hl'.1 x hx) (irr x)
    ·exact e
   ·intro hx;rcases List.mem_cons.1 ((h x).2 (List.mem_cons_of_mem _ hx))with e|e
    ·subst e;exact absurd (hm'.1 x hx) (irr x)
    ·exact e
  rw[this]
theorem Zoc {l m:List Int} (hl:l.Pairwise (·<·)) (hm:m.Pairwise (·<·)) (h:∀x,x∈l↔x∈m):l=m:=
 ZbG (r:=(·<·)) (fun a=>by omega) (fun a b c=>by omega) hl hm h
theorem ZcS (a b:HArc):ZbR a b=true↔a.f<b.f∨(a.f=b.f∧(a.kind<b.kind∨(a.kind=b.kind∧(a.label<b.label∨(a.label=b.label∧a.t<b.t))))):=by
 unfold ZbR
 split
 ·split
  ·split
   ·simp_all
   ·simp_all
  ·simp_all
 ·simp_all
theorem Zfa (a:HArc):¬ZbR a a=true:=by rw[ZcS];omega
theorem Zf5 (a b c:HArc) (h:ZbR a b=true) (k:ZbR b c=true):ZbR a c=true:=by rw[ZcS]at*;omega
theorem Znb (a b:HArc) (h:¬ZbR a b=true) (k:a≠b):ZbR b a=true:=by
 rw[ZcS]at*
 have:¬(a.f=b.f∧a.kind=b.kind∧a.label=b.label∧a.t=b.t):=by
  rintro⟨e1,e2,e3,e4⟩;obtain⟨af,at',ak,al⟩:=a;obtain⟨bf,bt,bk,bl⟩:=b;simp only at e1 e2 e3 e4;subst e1 e2 e3 e4;exact k rfl
 omega
def Zd7 (q:List HArc):Prop:=q.Pairwise fun a b=>ZbR a b=true
def Zco (a:HArc):List HArc→List HArc
 |[]=>[a]
 |x::l=>if ZbR x a=true then x::Zco a l else a::(x::l).filter (fun y=> !(y==a))
theorem ZbF (a b:HArc):∀l,b∈Zco a l↔b=a∨b∈l
 |[]=>by simp[Zco]
 |x::l=>by
  have ih:=ZbF a b l;unfold Zco
  split
  ·simp only[List.mem_cons,ih];grind
  ·rw[List.mem_cons,List.mem_filter]
   by_cases h:b=a<;>simp[h]
theorem Zf1 (a:HArc):∀l,Zd7 l→Zd7 (Zco a l)
 |[],_=>by simp[Zco,Zd7]
 |x::l,h=>by
  have h':=List.pairwise_cons.1 h;unfold Zco
  split
  ·rename_i hx
   refine List.pairwise_cons.2 ⟨fun b hb=> ?_,Zf1 a l h'.2⟩;rcases(ZbF a b l).1 hb with rfl|h2
   ·exact hx
   ·exact h'.1 b h2
  ·rename_i hx
   refine List.pairwise_cons.2 ⟨fun b hb=> ?_,h.filter _⟩;rw[List.mem_filter]at hb;have h1:b≠a:=by simpa using hb.2
   by_cases hxa:x=a
   ·subst hxa;rcases List.mem_cons.1 hb.1 with rfl|h2
    ·exact absurd rfl h1
    ·exact h'.1 b h2
   ·have h3:=Znb x a hx hxa;rcases List.mem_cons.1 hb.1 with rfl|h2
    ·exact h3
    ·exact Zf5 _ _ _ h3 (h'.1 b h2)
theorem Zoi (a:HArc) (l:List HArc):(Zco a l).length≤l.length+1:=by
 induction l with
 |nil=>simp[Zco]
 |cons x l ih=>
  unfold Zco
  split
  ·simp only[List.length_cons]at*;omega
  ·have:=List.length_filter_le (fun y=> !(y==a)) (x::l);simp only[List.length_cons]at*;omega
theorem Zjs (a:HArc):∀l,a∉l→(Zco a l).length=l.length+1
 |[],_=>by simp[Zco]
 |x::l,h=>by
  have ih:=Zjs a l (fun e=>h (List.mem_cons_of_mem _ e));unfold Zco
  split
  ·simp only[List.length_cons,ih]
  ·rw[List.filter_eq_self.2 (fun y hy=>by
    have:y≠a:=fun e=>h (e▸hy)
    simpa using this)]
   simp
def nxS (node:Int) (back:Bool) (s:List Int):List HArc→List Int
 |[]=>s
 |x::l=>nxS node back (if back=true then (if x.t=node then ZZ x.f s else s) else (if x.f=node then ZZ x.t s else s)) l
def nxA (node:Int) (back:Bool) (p:List HArc):List Int:=nxS node back [] p
theorem ZhA (node:Int) (back:Bool) (v:Int):∀(l:List HArc) (s:List Int),v∈nxS node back s l↔v∈s∨∃x∈l,(if back then x.t=node∧v=x.f else x.f=node∧v=x.t)
 |[],s=>by simp[nxS]
 |x::l,s=>by
  show v∈nxS node back (if back=true then (if x.t=node then ZZ x.f s else s) else (if x.f=node then ZZ x.t s else s)) l↔_
  rw[ZhA node back v l]
  cases back
  ·by_cases h:x.f=node<;>simp[h,Zbi]<;>grind
  ·by_cases h:x.t=node<;>simp[h,Zbi]<;>grind
theorem ZjC (node:Int) (back:Bool):∀(l:List HArc) (s:List Int),s.Pairwise (·<·)→(nxS node back s l).Pairwise (·<·)
 |[],_,h=>h
 |x::l,s,h=>by
  show(nxS node back (if back=true then (if x.t=node then ZZ x.f s else s) else (if x.f=node then ZZ x.t s else s)) l).Pairwise (·<·)
  apply ZjC node back l
  cases back
  ·by_cases h2:x.f=node
   ·simpa[h2]using Zde _ _ h
   ·simpa[h2]using h
  ·by_cases h2:x.t=node
   ·simpa[h2]using Zde _ _ h
   ·simpa[h2]using h
/-! rows of ends -/
theorem Zj7 (a:DEnd):¬Zaf a a<0:=by rw[ZhT];omega
theorem Zo7 (a b:DEnd) (h:¬Zaf a b<0) (k:a≠b):Zaf b a<0:=by
 rw[ZhT]at*
 have:¬(a.kind=b.kind∧a.label=b.label∧a.node=b.node):=by
  rintro⟨e1,e2,e3⟩;obtain⟨ak,al,an⟩:=a;obtain⟨bk,bl,bn⟩:=b;simp only at e1 e2 e3;subst e1 e2 e3;exact k rfl
 omega
theorem ZjJ (l:List DEnd) (e x:DEnd):x∈ZdW l e↔x=e∨x∈l:=by
 unfold ZdW Zbv;have:=List.take_append_drop (ZK l e) l;have h2:x∈l↔x∈l.take (ZK l e)∨x∈l.drop (ZK l e):=by rw[←List.mem_append,this]
 rw[h2];simp only[List.mem_append,List.mem_singleton]
 grind
theorem Zkr {l:List DEnd} {p:Nat} {x:DEnd} (h:x∈l.take p):∃k,∃hk:k<l.length,k<p∧l[k]=x:=by
 obtain⟨k,hk,rfl⟩:=List.mem_iff_getElem.1 h;rw[List.length_take]at hk;exact⟨k,by omega,by omega,by simp⟩
theorem Zks {l:List DEnd} {p:Nat} {x:DEnd} (h:x∈l.drop p):∃k,∃hk:k<l.length,p≤k∧l[k]=x:=by
 obtain⟨k,hk,rfl⟩:=List.mem_iff_getElem.1 h;rw[List.length_drop]at hk;exact⟨p+k,by omega,by omega,by simp⟩
theorem Zh9 {l:List DEnd} (h:ZaY l) {e:DEnd} (hn:e∉l):ZaY (ZdW l e):=by
 have hp:=ZbP h e;unfold ZdW Zbv ZaY;rw[List.pairwise_append,List.pairwise_append];have h1:(l.take (ZK l e)++l.drop (ZK l e)).Pairwise fun a b=>Zaf a b<0:=by rw[List.take_append_drop];exact h
 rw[List.pairwise_append]at h1
 have hd:∀x∈l.drop (ZK l e),Zaf e x<0:=fun x hx=>by
  obtain⟨k,hk,hkp,rfl⟩:=Zks hx;exact Zo7 _ _ (fun e2=>by have:=(hp.2 k hk).1 e2;omega) (fun e2=>hn (e2▸List.getElem_mem hk))
 have ht:∀x∈l.take (ZK l e),Zaf x e<0:=fun x hx=>by
  obtain⟨k,hk,hkp,rfl⟩:=Zkr hx;exact(hp.2 k hk).2 hkp
 refine⟨⟨h1.1,List.pairwise_singleton _ _,fun a ha b hb=> ?_⟩,h1.2.1,fun a ha b hb=> ?_⟩
 ·rw[List.mem_singleton]at hb;subst hb;exact ht a ha
 ·rcases List.mem_append.1 ha with ha|ha
  ·exact h1.2.2 a ha b hb
  ·rw[List.mem_singleton]at ha;subst ha;exact hd b hb
theorem ZgD {l:List DEnd} (h:ZaY l) (e:DEnd):ZaY (ZdG l e):=by
 unfold ZdG ZiW ZaY;have h1:(l.take (ZK l e)++l.drop (ZK l e)).Pairwise fun a b=>Zaf a b<0:=by rw[List.take_append_drop];exact h
 rw[List.pairwise_append]at h1;rw[List.pairwise_append]
 have hs:(l.drop (ZK l e+1)).Sublist (l.drop (ZK l e)):=by
  have:l.drop (ZK l e+1)=(l.drop (ZK l e)).drop 1:=by rw[List.drop_drop]
  rw[this];exact List.drop_sublist _ _
 exact⟨h1.1,h1.2.1.sublist hs,fun a ha b hb=>h1.2.2 a ha b (hs.subset hb)⟩
theorem Zij {l:List DEnd} (h:ZaY l) {e:DEnd} (hm:e∈l) (x:DEnd):x∈ZdG l e↔x≠e∧x∈l:=by
 have hlt:=Zp3 h hm;have hat:=Zgo h e;rw[decide_eq_true hm]at hat
 have he:l[ZK l e]=e:=by
  unfold Zey at hat;rw[Qg hlt]at hat;exact(ZfR _ _).1 (by simpa using hat)
 have hsplit:l=l.take (ZK l e)++e::l.drop (ZK l e+1):=by
  have h1:=List.take_append_drop (ZK l e) l;rw[List.drop_eq_getElem_cons hlt,he]at h1;exact h1.symm
 have hpw:(l.take (ZK l e)++e::l.drop (ZK l e+1)).Pairwise fun a b=>Zaf a b<0:=by rw[←hsplit];exact h
 rw[List.pairwise_append]at hpw;have hc:=List.pairwise_cons.1 hpw.2.1
 have hx:x∈l↔x∈l.take (ZK l e)∨x=e∨x∈l.drop (ZK l e+1):=by
  conv=>lhs;rw[hsplit]
  rw[List.mem_append,List.mem_cons]
 rw[hx];unfold ZdG ZiW;rw[List.mem_append]
 constructor
 ·rintro(h1|h1)
  ·exact⟨fun e2=>Zj7 e (by have:=hpw.2.2 x h1 e List.mem_cons_self;rwa [e2]at this),.inl h1⟩
  ·exact⟨fun e2=>Zj7 e (by have:=hc.1 x h1;rwa [e2]at this),.inr (.inr h1)⟩
 ·rintro⟨h1,h2|h2|h2⟩
  ·exact .inl h2
  ·exact absurd h2 h1
  ·exact .inr h2
end
/- Digraphs,plain:the rows hold just the arcs,whatever is added and dropped. -/
section
open Go.RowKit
theorem Zc6 (N:Nat) (a:HArc):Zx N a=true↔0≤a.f∧a.f<(N:Int)∧0≤a.t∧a.t<(N:Int)∧1≤a.kind∧a.kind≤3∧0≤a.label∧a.label≤1048575:=by
 simp only[Zx,Zat,Bool.and_eq_true,decide_eq_true_eq,and_assoc]
theorem Zav (i n k l:Int) (a:HArc):(⟨i,n,k,l⟩:HArc)=a↔i=a.f∧n=a.t∧k=a.kind∧l=a.label:=by
 obtain⟨af,at',ak,al⟩:=a;simp
theorem ZfQ (e:DEnd) (k l n:Int):e=⟨k,l,n⟩↔e.kind=k∧e.label=l∧e.node=n:=by
 obtain⟨ek,el,en⟩:=e;simp
structure DOk (N K:Nat) (q:List HArc) (out inn:List (List DEnd)):Prop where
 s:Zd7 q
 r:∀a∈q,Zx N a=true
 lo:out.length=N
 li:inn.length=N
 so:∀l∈out,ZaY l
 si:∀l∈inn,ZaY l
 mo:∀(i:Nat) l,out[i]? =some l→∀e:DEnd,e∈l↔(⟨i,e.node,e.kind,e.label⟩:HArc)∈q
 mi:∀(i:Nat) l,inn[i]? =some l→∀e:DEnd,e∈l↔(⟨e.node,i,e.kind,e.label⟩:HArc)∈q
 fo:∀l∈out,l.length≤K
 fi:∀l∈inn,l.length≤K
 fq:q.length≤K
def Zc0 (N:Nat) (q:List HArc) (a:HArc):List HArc:=if Zx N a=true then (if a∈q then q else Zco a q) else q
def Zgx (N:Nat) (q:List HArc) (a:HArc):Int:=if Zx N a=true then (if a∈q then 4 else 0) else 1
def Zl4 (q:List HArc) (a:HArc):Int:=if a∈q then 0 else 3
theorem ZaQ {α:Type} {l:List α} {f:α→α} {i:Nat} {x:α} (h:x∈l.modify i f):x∈l∨∃y∈l,l[i]? =some y∧x=f y:=by
 obtain⟨k,hk,rfl⟩:=List.mem_iff_getElem.1 h;rw[List.length_modify]at hk;rw[List.getElem_modify]
 split
 ·next e=>subst e;exact .inr ⟨l[i],List.getElem_mem hk,Qg hk,rfl⟩
 ·exact .inl (List.getElem_mem hk)
theorem ZcJ {l m:List (List DEnd)} {f:List DEnd→List DEnd} {i k:Nat} {r:List DEnd} (h:(l.modify i f)[k]? =some r):(k=i∧∃s,l[k]? =some s∧r=f s)∨(k≠i∧l[k]? =some r):=by
 rw[List.getElem?_modify]at h
 by_cases e:i=k
 ·subst e;simp only[if_true,Option.map_eq_map,Option.map_eq_some_iff]at h;obtain⟨s,h1,rfl⟩:=h;exact .inl ⟨rfl,s,h1,rfl⟩
 ·simp only[if_neg e]at h;exact .inr ⟨fun e2=>e e2.symm,by simpa using h⟩
theorem DOk.nil (N:Nat):DOk N 0 [] (List.replicate N []) (List.replicate N []):=by
 have hm:∀l∈List.replicate N ([]:List DEnd),l=[]:=fun l h=>(List.mem_replicate.1 h).2
 have hg:∀(i:Nat) l,(List.replicate N ([]:List DEnd))[i]? =some l→l=[]:=fun i l h=>hm l (List.mem_of_getElem? h)
 exact⟨List.Pairwise.nil,by simp,by simp,by simp,fun l h=>by rw[hm l h];exact List.Pairwise.nil,fun l h=>by rw[hm l h];exact List.Pairwise.nil,
  fun i l h e=>by rw[hg i l h];simp,fun i l h e=>by rw[hg i l h];simp,fun l h=>by rw[hm l h];simp,fun l h=>by rw[hm l h];simp,by simp⟩
section
variable {N K:Nat} {q:List HArc} {out inn:List (List DEnd)}
theorem DOk.mono (h:DOk N K q out inn) {K':Nat} (hk:K≤K'):DOk N K' q out inn:=
 {h with fo:=fun l hl=>Nat.le_trans (h.fo l hl) hk,fi:=fun l hl=>Nat.le_trans (h.fi l hl) hk,fq:=Nat.le_trans h.fq hk}
theorem DOk.has (h:DOk N K q out inn) (a:HArc):Zdz out a=decide (a∈q):=by
 unfold Zdz;rw[h.lo]
 by_cases hr:Zx N a=true
 ·obtain⟨i,j,e1,e2,hi,hj⟩:=ZbY hr;have hil:i<out.length:=by rw[h.lo];exact hi
  rw[hr,e1];simp only[Int.toNat_natCast,Qg hil,Bool.true_and];rw[decide_eq_decide,h.mo i _ (Qg hil)];have:(⟨(i:Int),(ZaK a).node,(ZaK a).kind,(ZaK a).label⟩:HArc)=a:=by rw[Zav];exact⟨e1.symm,rfl,rfl,rfl⟩
  rw[this]
 ·have hn:a∉q:=fun e=>hr (h.r a e)
  have hf:Zx N a=false:=by simpa using hr
  rw[hf,decide_eq_false hn];rfl
theorem DOk.addW_ (h:DOk N K q out inn) (a:HArc):ZcZ out a=Zgx N q a:=by
 unfold ZcZ Zgx;rw[h.has a,h.lo];simp only[decide_eq_true_eq]
theorem DOk.dropW_ (h:DOk N K q out inn) (a:HArc):ZiV out a=Zl4 q a:=by
 unfold ZiV Zl4;rw[h.has a];simp only[decide_eq_true_eq]
theorem Zia {l:List DEnd} (h:ZaY l) (e:DEnd):(ZdW l e).length=l.length+1:=Zoh l e (ZbP h e)
theorem ZgE (l:List DEnd) (e:DEnd):(ZdG l e).length≤l.length:=by
 unfold ZdG ZiW;rw[List.length_append,List.length_take,List.length_drop];omega
theorem DOk.add (h:DOk N K q out inn) (a:HArc):DOk N (K+1) (Zc0 N q a) (ZeK out a) (ZeM out inn a):=by
 unfold ZeK ZeM Zc0;rw[h.addW_ a];unfold Zgx
 by_cases hr:Zx N a=true
 ·by_cases hm:a∈q
  ·simp only[if_pos hr,if_pos hm,if_neg (show¬(4:Int)=0 by decide)];exact h.mono (by omega)
  ·simp only[if_pos hr,if_neg hm,if_true];obtain⟨i,j,e1,e2,hi,hj⟩:=ZbY hr;have hil:i<out.length:=by rw[h.lo];exact hi
   have hjl:j<inn.length:=by rw[h.li];exact hj
   rw[e1,e2];simp only[Int.toNat_natCast]
   have ao:∀s,out[i]? =some s→ZaK a∉s:=fun s hs=>by
    rw[h.mo i s hs];have:(⟨(i:Int),(ZaK a).node,(ZaK a).kind,(ZaK a).label⟩:HArc)=a:=by rw[Zav];exact⟨e1.symm,rfl,rfl,rfl⟩
    rw[this];exact hm
   have ai:∀s,inn[j]? =some s→inE a∉s:=fun s hs=>by
    rw[h.mi j s hs];have:(⟨(inE a).node,(j:Int),(inE a).kind,(inE a).label⟩:HArc)=a:=by rw[Zav];exact⟨rfl,e2.symm,rfl,rfl⟩
    rw[this];exact hm
   constructor
   case s=>exact Zf1 a q h.s
   case r=>
    intro b hb;rcases(ZbF a b q).1 hb with rfl|hb
    ·exact hr
    ·exact h.r b hb
   case lo=>simpa using h.lo
   case li=>simpa using h.li
   case so=>
    intro l hl;rcases ZaQ hl with hl|⟨y,hy,hy2,rfl⟩
    ·exact h.so l hl
    ·exact Zh9 (h.so y hy) (ao y hy2)
   case si=>
    intro l hl;rcases ZaQ hl with hl|⟨y,hy,hy2,rfl⟩
    ·exact h.si l hl
    ·exact Zh9 (h.si y hy) (ai y hy2)
   case mo=>
    intro k l hl e;rcases ZcJ (m:=[]) hl with ⟨rfl,s,hs,rfl⟩|⟨hne,hl⟩
    ·rw[ZjJ,ZbF,h.mo k s hs,Zav,show ZaK a=⟨a.kind,a.label,a.t⟩ from rfl,ZfQ]
     constructor
     ·rintro(⟨x1,x2,x3⟩|x)
      ·exact .inl ⟨e1.symm,x3,x1,x2⟩
      ·exact .inr x
     ·rintro(⟨_,x1,x2,x3⟩|x)
      ·exact .inl ⟨x2,x3,x1⟩
      ·exact .inr x
    ·rw[ZbF,h.mo k l hl,Zav]
     constructor
     ·exact .inr
     ·rintro(⟨x,_⟩|x)
      ·exact absurd (by omega) hne
      ·exact x
   case mi=>
    intro k l hl e;rcases ZcJ (m:=[]) hl with ⟨rfl,s,hs,rfl⟩|⟨hne,hl⟩
    ·rw[ZjJ,ZbF,h.mi k s hs,Zav,show inE a=⟨a.kind,a.label,a.f⟩ from rfl,ZfQ]
     constructor
     ·rintro(⟨x1,x2,x3⟩|x)
      ·exact .inl ⟨x3,e2.symm,x1,x2⟩
      ·exact .inr x
     ·rintro(⟨x1,_,x2,x3⟩|x)
      ·exact .inl ⟨x2,x3,x1⟩
      ·exact .inr x
    ·rw[ZbF,h.mi k l hl,Zav]
     constructor
     ·exact .inr
     ·rintro(⟨_,x,_⟩|x)
      ·exact absurd (by omega) hne
      ·exact x
   case fo=>
    intro l hl;rcases ZaQ hl with hl|⟨y,hy,hy2,rfl⟩
    ·have:=h.fo l hl;omega
    ·have:=h.fo y hy;rw[Zia (h.so y hy)];omega
   case fi=>
    intro l hl;rcases ZaQ hl with hl|⟨y,hy,hy2,rfl⟩
    ·have:=h.fi l hl;omega
    ·have:=h.fi y hy;rw[Zia (h.si y hy)];omega
   case fq=>
    have:=Zoi a q;have:=h.fq;omega
 ·simp only[if_neg hr,if_neg (show¬(1:Int)=0 by decide)];exact h.mono (by omega)
theorem DOk.addN_ (h:DOk N K q out inn) (a:HArc):ZeL out (q.length:Int) a=((Zc0 N q a).length:Int):=by
 unfold ZeL Zc0;rw[h.addW_ a];unfold Zgx
 by_cases hr:Zx N a=true
 ·by_cases hm:a∈q
  ·simp[hr,hm]
  ·simp only[if_pos hr,if_neg hm,if_true,Zjs a q hm];omega
 ·simp[hr]
theorem DOk.drop (h:DOk N K q out inn) (a:HArc):DOk N K (q.filter fun x=>x != a) (Zpv out a) (Zpw out inn a):=by
 unfold Zpv Zpw;rw[h.dropW_ a];unfold Zl4
 by_cases hm:a∈q
 ·simp only[if_pos hm,if_true];obtain⟨i,j,e1,e2,hi,hj⟩:=ZbY (h.r a hm);rw[e1,e2];simp only[Int.toNat_natCast]
  have ao:∀s,out[i]? =some s→ZaK a∈s:=fun s hs=>by
   rw[h.mo i s hs];have:(⟨(i:Int),(ZaK a).node,(ZaK a).kind,(ZaK a).label⟩:HArc)=a:=by rw[Zav];exact⟨e1.symm,rfl,rfl,rfl⟩
   rw[this];exact hm
  have ai:∀s,inn[j]? =some s→inE a∈s:=fun s hs=>by
   rw[h.mi j s hs];have:(⟨(inE a).node,(j:Int),(inE a).kind,(inE a).label⟩:HArc)=a:=by rw[Zav];exact⟨rfl,e2.symm,rfl,rfl⟩
   rw[this];exact hm
  constructor
  case s=>exact h.s.filter _
  case r=>exact fun b hb=>h.r b (List.mem_filter.1 hb).1
  case lo=>simpa using h.lo
  case li=>simpa using h.li
  case so=>
   intro l hl;rcases ZaQ hl with hl|⟨y,hy,hy2,rfl⟩
   ·exact h.so l hl
   ·exact ZgD (h.so y hy) _
  case si=>
   intro l hl;rcases ZaQ hl with hl|⟨y,hy,hy2,rfl⟩
   ·exact h.si l hl
   ·exact ZgD (h.si y hy) _
  case mo=>
   intro k l hl e;rw[List.mem_filter,bne_iff_ne];rcases ZcJ (m:=[]) hl with ⟨rfl,s,hs,rfl⟩|⟨hne,hl⟩
   ·rw[Zij (h.so s (List.mem_of_getElem? hs)) (ao s hs),h.mo k s hs,and_comm];refine and_congr_right fun _=>not_congr ?_
    rw[Zav,show ZaK a=⟨a.kind,a.label,a.t⟩ from rfl,ZfQ]
    constructor
    ·rintro⟨x1,x2,x3⟩;exact⟨e1.symm,x3,x1,x2⟩
    ·rintro⟨_,x1,x2,x3⟩;exact⟨x2,x3,x1⟩
   ·rw[h.mo k l hl];refine⟨fun x=>⟨x,fun x2=> ?_⟩,fun x=>x.1⟩;rw[Zav]at x2;exact hne (by omega)
  case mi=>
   intro k l hl e;rw[List.mem_filter,bne_iff_ne];rcases ZcJ (m:=[]) hl with ⟨rfl,s,hs,rfl⟩|⟨hne,hl⟩
   ·rw[Zij (h.si s (List.mem_of_getElem? hs)) (ai s hs),h.mi k s hs,and_comm];refine and_congr_right fun _=>not_congr ?_
    rw[Zav,show inE a=⟨a.kind,a.label,a.f⟩ from rfl,ZfQ]
    constructor
    ·rintro⟨x1,x2,x3⟩;exact⟨x3,e2.symm,x1,x2⟩
    ·rintro⟨x1,_,x2,x3⟩;exact⟨x2,x3,x1⟩
   ·rw[h.mi k l hl];refine⟨fun x=>⟨x,fun x2=> ?_⟩,fun x=>x.1⟩;rw[Zav]at x2;exact hne (by omega)
  case fo=>
   intro l hl;rcases ZaQ hl with hl|⟨y,hy,hy2,rfl⟩
   ·exact h.fo l hl
   ·exact Nat.le_trans (ZgE _ _) (h.fo y hy)
  case fi=>
   intro l hl;rcases ZaQ hl with hl|⟨y,hy,hy2,rfl⟩
   ·exact h.fi l hl
   ·exact Nat.le_trans (ZgE _ _) (h.fi y hy)
  case fq=>exact Nat.le_trans (List.length_filter_le _ _) h.fq
 ·simp only[if_neg hm,if_neg (show¬(3:Int)=0 by decide)];rw[List.filter_eq_self.2 (fun x hx=>by rw[bne_iff_ne];exact fun e=>hm (e▸hx))];exact h
theorem DOk.ko (h:DOk N K q out inn):ZjR out:=fun l hl e he=>by
 obtain⟨i,hi,rfl⟩:=List.mem_iff_getElem.1 hl;have:=h.r _ ((h.mo i _ (Qg hi) e).1 he);rw[Zc6]at this;exact⟨this.2.2.2.2.1,this.2.2.2.2.2.1⟩
theorem DOk.ki (h:DOk N K q out inn):ZjR inn:=fun l hl e he=>by
 obtain⟨i,hi,rfl⟩:=List.mem_iff_getElem.1 hl;have:=h.r _ ((h.mi i _ (Qg hi) e).1 he);rw[Zc6]at this;exact⟨this.2.2.2.2.1,this.2.2.2.2.2.1⟩
def ofA (mask:Int) (q:List HArc):List HArc:=q.filter fun x=>ZS mask x.kind
theorem mem_ofA {mask:Int} {q:List HArc} {x:HArc}:x∈ofA mask q↔x∈q∧ZS mask x.kind=true:=by unfold ofA;rw[List.mem_filter]
theorem Zoy (mask:Int) (ls:List (List DEnd)) (i:Int):(ZcI mask ls i).Pairwise (·<·):=by
 unfold ZcI
 split
 ·unfold Zdx;rw[Zdp];exact ZbK _
 ·exact List.Pairwise.nil
theorem ZlF (mask:Int) (l:List DEnd) (v:Int):v∈Zdx mask l↔∃e∈l,ZS mask e.kind=true∧v=e.node:=by
 unfold Zdx;rw[Zdp,Zbh];unfold Zcp;rw[List.mem_map]
 constructor
 ·rintro⟨e,he,rfl⟩;rw[List.mem_filter]at he;exact⟨e,he.1,he.2,rfl⟩
 ·rintro⟨e,h1,h2,rfl⟩;exact⟨e,List.mem_filter.2 ⟨h1,h2⟩,rfl⟩
theorem DOk.mem_next (h:DOk N K q out inn) (mask i v:Int):v∈ZcI mask out i↔∃x∈ofA mask q,x.f=i∧v=x.t:=by
 unfold ZcI
 by_cases hb:Zat out.length i=true
 ·rw[if_pos hb];simp only[Zat,Bool.and_eq_true,decide_eq_true_eq]at hb;obtain⟨j,rfl⟩:∃j:Nat,i=(j:Int):=⟨i.toNat,by omega⟩;have hj:j<out.length:=by omega
  simp only[Int.toNat_natCast,Qg hj];rw[ZlF]
  constructor
  ·rintro⟨e,h1,h2,rfl⟩;exact⟨_,mem_ofA.2 ⟨(h.mo j _ (Qg hj) e).1 h1,h2⟩,rfl,rfl⟩
  ·rintro⟨x,h1,h3,rfl⟩;rw[mem_ofA]at h1;refine⟨⟨x.kind,x.label,x.t⟩,?_,h1.2,rfl⟩;rw[h.mo j _ (Qg hj)];have:(⟨(j:Int),x.t,x.kind,x.label⟩:HArc)=x:=by rw[Zav];exact⟨h3.symm,rfl,rfl,rfl⟩
   rw[this];exact h1.1
 ·rw[if_neg hb];simp only[List.not_mem_nil,false_iff];rintro⟨x,h1,h3,_⟩;rw[mem_ofA]at h1;have:=(Zc6 _ _).1 (h.r x h1.1)
  apply hb
  simp only[Zat,Bool.and_eq_true,decide_eq_true_eq,h.lo];omega
theorem DOk.next_ (h:DOk N K q out inn) (mask i:Int):ZcI mask out i=nxA i false (ofA mask q):=
 Zoc (Zoy _ _ _) (ZjC _ _ _ _ List.Pairwise.nil) fun v=>by
  rw[h.mem_next];unfold nxA;rw[ZhA];simp
end
end
/- Digraphs:the contracts by the arcs alone,nil or not. -/
section
open Go.RowKit
def DGs (w:World) (G:Nat→Prop) (g N K:Nat) (q:List HArc):Prop:=
 ∃out inn ob ib oh ih base,GIs w G g out inn (q.length:Int) ob ib oh ih base∧DOk N K q out inn∧base≤w.heap.size
def DG (w:World) (G:Nat→Prop) (p:Option Addr) (N K:Nat) (q:List HArc):Prop:=
 (p=none∧N=0∧q=[])∨∃g,p=some ⟨g,0,none⟩∧DGs w G g N K q
def DTs (w:World) (G:Nat→Prop) (p:Option Addr) (N K:Nat) (q:List HArc) (r:Value) (e:Ending) (w':World):Prop:=
 ∃G',e= .returned r∧DG w' G' p N K q∧Upd G w w'∧∀k,G' k→G k∨w.heap.size≤k
def ZsF (w:World) (N K:Nat) (q:List HArc) (e:Ending) (w':World):Prop:=
 ∃G g,e= .returned (.pointer (some ⟨g,0,none⟩))∧DG w' G (some ⟨g,0,none⟩) N K q∧Upd No w w'∧∀k,G k→w.heap.size≤k
theorem DG.nil (w:World) (G:Nat→Prop):DG w G none 0 0 []:= .inl ⟨rfl,rfl,rfl⟩
section
variable {w:World} {G:Nat→Prop} {p:Option Addr} {N K:Nat} {q:List HArc}
theorem DG.upd (h:DG w G p N K q) {S:Nat→Prop} {w':World} (k:Upd S w w') (hn:∀i,G i→¬S i):DG w' G p N K q:=by
 rcases h with h|⟨g,rfl,out,inn,ob,ib,oh,ih,base,h1,h2,h3⟩
 ·exact .inl h
 ·exact .inr ⟨g,rfl,out,inn,ob,ib,oh,ih,base,h1.upd k hn,h2,Nat.le_trans h3 k.size⟩
theorem DG.no (h:DG w G p N K q) {w':World} (k:Upd No w w'):DG w' G p N K q:=h.upd k fun _ _=>id
theorem DG.sorted (h:DG w G p N K q):Zd7 q:=by
 rcases h with ⟨_,_,rfl⟩|⟨g,rfl,out,inn,ob,ib,oh,ih,base,h1,h2,h3⟩
 ·exact List.Pairwise.nil
 ·exact h2.s
theorem DG.right (h:DG w G p N K q):∀a∈q,Zx N a=true:=by
 rcases h with ⟨_,_,rfl⟩|⟨g,rfl,out,inn,ob,ib,oh,ih,base,h1,h2,h3⟩
 ·simp
 ·exact h2.r
theorem DG.few (h:DG w G p N K q):q.length≤K:=by
 rcases h with ⟨_,_,rfl⟩|⟨g,rfl,out,inn,ob,ib,oh,ih,base,h1,h2,h3⟩
 ·simp
 ·exact h2.fq
theorem DG.old (h:DG w G p N K q) (hp:p≠none):∀k,G k→k<w.heap.size:=by
 rcases h with ⟨rfl,_,rfl⟩|⟨g,rfl,out,inn,ob,ib,oh,ih,base,h1,h2,h3⟩
 ·exact absurd rfl hp
 ·exact h1.old
theorem ZqB (h:DG w G p N K q):Calls Tryz.prog 105 #[.pointer p] w fun e w'=>e= .returned (.int .i64 (N:Int))∧w=w':=by
 rcases h with ⟨rfl,rfl,rfl⟩|⟨g,rfl,out,inn,ob,ib,oh,ih,base,h1,h2,h3⟩
 ·exact Zlc w
 ·rw[←h2.lo];exact ZnB h1
theorem Zrz (h:DG w G p N K q) (i mask:Int):Calls Tryz.prog 107 #[.pointer p,.int .i64 i,.int .i64 mask] w (Zc2 w (nxA i false (ofA mask q))):=by
 rcases h with ⟨rfl,rfl,rfl⟩|⟨g,rfl,out,inn,ob,ib,oh,ih,base,h1,h2,h3⟩
 ·exact Zry w i mask
 ·rw[←h2.next_];exact Zsp h1 h2.ko i mask
theorem Zsv (h:DG w G p N K q) (hK:K<100000) (a:HArc):Calls Tryz.prog 12 #[.pointer p,.agg a.cells.toArray] w (DTs w G p N (K+1) (Zc0 N q a) (.int .i64 (Zgx N q a))):=by
 rcases h with ⟨rfl,rfl,rfl⟩|⟨g,rfl,out,inn,ob,ib,oh,ih,base,h1,h2,h3⟩
 ·have hr:¬Zx 0 a=true:=fun e=>by rw[Zc6]at e;omega
  refine(Zsw w a).mono ?_;rintro e w' ⟨rfl,hu⟩;exact⟨G,by unfold Zgx;rw[if_neg hr],.inl ⟨rfl,rfl,by unfold Zc0;rw[if_neg hr]⟩,hu.mono (fun _ _ e=>e.elim),fun _ e=> .inl e⟩
 ·have hq:=h2.fq;refine(Ztk (n:=q.length) h1 h2.so h2.si ⟨fun l hl=>by have:=h2.fo l hl;omega,fun l hl=>by have:=h2.fi l hl;omega⟩ (by omega) h3 a).mono ?_;rintro e w' ⟨G',oh',ih',rfl,k1,k2,k3⟩;rw[h2.addN_]at k1;exact⟨G',by rw[h2.addW_],.inr ⟨g,rfl,_,_,_,_,_,_,_,k1,h2.add a,Nat.le_trans h3 k2.size⟩,k2,k3⟩
end
theorem Zsu (w:World) (n:Int):Calls Tryz.prog 11 #[.int .i64 n] w (ZsF w (Zb2 n) 0 []):=by
 refine(Zth w n).mono ?_;rintro e w' ⟨G,g,ob,ib,oh,ih,rfl,h1,h2,h3⟩;exact⟨G,g,rfl,.inr ⟨g,rfl,_,_,_,_,_,_,_,h1,DOk.nil _,Nat.le_refl _⟩,h2,h3⟩
end
/- Digraphs:the law of both sides. -/
section
open Go.RowKit
def DMa (w:World) (g N K:Nat) (q:List HArc) (W:World):Prop:=
 ∃G,DG W G (some ⟨g,0,none⟩) N K q∧Upd No w W∧∀k,G k→w.heap.size≤k
namespace DMa
variable {w W W':World} {g N K:Nat} {q:List HArc}
theorem no (h:DMa w g N K q W) (k:Upd No W W'):DMa w g N K q W':=by
 obtain⟨G,h1,h2,h3⟩:=h;exact⟨G,h1.no k,h2.trans k,h3⟩
theorem upd (h:DMa w g N K q W):Upd No w W:=by
 obtain⟨G,h1,h2,h3⟩:=h;exact h2
theorem is (h:DMa w g N K q W):∃G,DG W G (some ⟨g,0,none⟩) N K q:=by
 obtain⟨G,h1,h2,h3⟩:=h;exact⟨G,h1⟩
end DMa
theorem Zsq (w:World) (n:Int):Calls Tryz.prog 11 #[.int .i64 n] w fun e w'=>∃g,e= .returned (.pointer (some ⟨g,0,none⟩))∧DMa w g (Zb2 n) 0 [] w':=by
 refine(Zsu w n).mono ?_;rintro e w' ⟨G,g,rfl,h1,h2,h3⟩;exact⟨g,rfl,G,h1,h2,h3⟩
theorem Zsr {w W:World} {g N K:Nat} {q:List HArc} (h:DMa w g N K q W) (hK:K<100000) (a:HArc):Calls Tryz.prog 12 #[.pointer (some ⟨g,0,none⟩),.agg a.cells.toArray] W fun e w'=>e= .returned (.int .i64 (Zgx N q a))∧DMa w g N (K+1) (Zc0 N q a) w':=by
 obtain⟨G,h1,h2,h3⟩:=h;refine(Zsv h1 hK a).mono ?_;rintro e w' ⟨G',rfl,k1,k2,k3⟩;refine⟨rfl,G',k1,h2.then_ k2 fun i e=> .inr (h3 i e),fun k hk=> ?_⟩;have:=h2.size;rcases k3 k hk with e|e
 ·exact h3 k e
 ·omega
def Zc9 (N:Nat):List HArc→List HArc→List HArc
 |q,[]=>q
 |q,a::l=>Zc9 N (Zc0 N q a) l
theorem Zg1 (N:Nat) (q:List HArc) (a:HArc) (l:List HArc):Zc9 N q (a::l)=Zc9 N (Zc0 N q a) l:=rfl
theorem ZnM {w:World} {base c:Nat} {A:Option Addr} {l:List HArc} (h:w.ownsRow base 34 4 (.slice A l.length c) l.length (ZfS l)):ArcsL (Own (.slice A l.length c)) w A l:=Recs.of_own (n:=l.length) (c:=c) (ZqH l) (by omega) h
end
/- Components of a digraph,the document's,plain:who is reached,labels,members,who goes round. -/
section
/-! reach:as often as there are arcs,and once more -/
def Zbd (q:List HArc):List Int→List HArc→List Int
 |out,[]=>out
 |out,a::l=>Zbd q (if a.f∈out∧a.t∉out then ZZ a.t out else out) l
def itR (q:List HArc):Nat→List Int→List Int
 |0,out=>out
 |n+1,out=>itR q n (Zbd q out q)
def ZcQ (q:List HArc) (i:Int):List Int:=itR q (q.length+1) (nxA i false q)
theorem Zjo {n:Int}:∀{l:List Int},n∉l→(ZZ n l).length=l.length+1
 |[],_=>rfl
 |x::l,h=>by
  simp only[List.mem_cons,not_or]at h;unfold ZZ
  split
  ·rw[List.filter_eq_self.2 (fun y hy=> ?_)]
   ·rfl
   ·have:y≠n:=fun e=>by
     subst e;rcases List.mem_cons.1 hy with e|e
     ·exact h.1 e
     ·exact h.2 e
    simpa using this
  ·rw[List.length_cons,Zjo h.2,List.length_cons]
theorem Zji (q:List HArc):∀(l:List HArc) (out:List Int),∀x∈out,x∈Zbd q out l
 |[],_,_,h=>h
 |a::l,out,x,h=>by
  unfold Zbd
  apply Zji
  split
  ·exact(Zbi _ _ _).2 (Or.inr h)
  ·exact h
theorem Zgb (q:List HArc):∀(l:List HArc) (out:List Int),out.length≤(Zbd q out l).length∧((Zbd q out l).length=out.length→Zbd q out l=out∧∀a∈l,a.f∈out→a.t∈out)
 |[],out=>⟨Nat.le_refl _,fun _=>⟨rfl,by simp⟩⟩
 |a::l,out=>by
  unfold Zbd
  split
  ·rename_i h
   have h1:=(Zgb q l (ZZ a.t out)).1;have h2:=Zjo h.2;exact⟨by omega,fun e=>by omega⟩
  ·rename_i h
   obtain⟨h1,h2⟩:=Zgb q l out;refine⟨h1,fun e=>⟨(h2 e).1,fun b hb=> ?_⟩⟩;rcases List.mem_cons.1 hb with rfl|hb
   ·intro hf;exact Classical.byContradiction fun ht=>h ⟨hf,ht⟩
   ·exact(h2 e).2 b hb
theorem ZkY (q:List HArc) {B:Nat} (hB:∀out:List Int,(∀x∈out,∃a∈q,a.t=x)→out.Pairwise (·<·)→out.length≤B):∀(n:Nat) (out:List Int),(∀x∈out,∃a∈q,a.t=x)→out.Pairwise (·<·)→(itR q n out).length≤B
 |0,out,h1,h2=>hB out h1 h2
 |n+1,out,h1,h2=>by
  unfold itR;refine ZkY q hB n _ ?_ ?_
  ·have:∀(l:List HArc) (out:List Int),(∀a∈l,a∈q)→(∀x∈out,∃a∈q,a.t=x)→∀x∈Zbd q out l,∃a∈q,a.t=x:=by
    intro l
    induction l with
    |nil=>intro out _ h;exact h
    |cons a l ih=>
     intro out hl h;unfold Zbd;refine ih _ (fun b hb=>hl b (List.mem_cons_of_mem _ hb)) ?_
     split
     ·intro x hx;rcases(Zbi _ _ _).1 hx with rfl|hx
      ·exact⟨a,hl a (List.mem_cons_self ..),rfl⟩
      ·exact h x hx
     ·exact h
   exact this q out (fun _ h=>h) h1
  ·have:∀(l:List HArc) (out:List Int),out.Pairwise (·<·)→(Zbd q out l).Pairwise (·<·):=by
    intro l
    induction l with
    |nil=>intro out h;exact h
    |cons a l ih=>
     intro out h;unfold Zbd;refine ih _ ?_
     split
     ·exact Zde _ _ h
     ·exact h
   exact this q out h2
theorem Zbo:∀(l m:List Int),l.Nodup→(∀x∈l,x∈m)→l.length≤m.length
 |[],_,_,_=>Nat.zero_le _
 |x::l,m,hn,hs=>by
  obtain⟨h1,h2⟩:=List.nodup_cons.1 hn;have hx:=hs x (List.mem_cons_self ..);have:=Zbo l (m.erase x) h2 fun y hy=>(List.mem_erase_of_ne (fun e:y=x=>h1 (by rw[←e];exact hy))).2 (hs y (List.mem_cons_of_mem _ hy))
  rw[List.length_erase_of_mem hx]at this;have:=List.length_pos_of_mem hx;rw[List.length_cons];omega
theorem Zp0 {l:List Int} (h:l.Pairwise (·<·)):l.Nodup:=by
 rw[List.nodup_iff_pairwise_ne];exact h.imp fun h e=>by omega
def ZhU (q:List HArc) (out:List Int):Prop:=∀a∈q,a.f∈out→a.t∈out
theorem ZfY {q:List HArc} {out:List Int} (h:ZhU q out):∀l:List HArc,(∀a∈l,a∈q)→Zbd q out l=out
 |[],_=>rfl
 |a::l,hl=>by
  unfold Zbd;rw[if_neg (fun e=>e.2 (h a (hl a (List.mem_cons_self ..)) e.1))];exact ZfY h l fun b hb=>hl b (List.mem_cons_of_mem _ hb)
theorem ZkZ (q:List HArc):∀(n:Nat) (out:List Int),itR q (n+1) out=Zbd q (itR q n out) q
 |0,_=>rfl
 |n+1,out=>by
  show itR q (n+1) (Zbd q out q)=_
  rw[ZkZ q n];rfl
theorem Znh (q:List HArc) (out:List Int):∀n,ZhU q (itR q n out)∨out.length+n≤(itR q n out).length
 |0=>Or.inr (Nat.le_refl _)
 |n+1=>by
  rw[ZkZ];rcases Znh q out n with h|h
  ·left
   rw[ZfY h q fun _ h=>h];exact h
  ·have h1:=Zgb q q (itR q n out)
   by_cases e:(Zbd q (itR q n out) q).length=(itR q n out).length
   ·left
    have:=(h1.2 e);rw[this.1];exact this.2
   ·right;omega
theorem mem_nxF {q:List HArc} {i x:Int}:x∈nxA i false q↔∃a∈q,a.f=i∧a.t=x:=by
 unfold nxA;rw[ZhA];simp only[List.not_mem_nil,false_or,Bool.false_eq_true,if_false]
 constructor
 ·rintro⟨a,ha,h1,h2⟩;exact⟨a,ha,h1,h2.symm⟩
 ·rintro⟨a,ha,h1,h2⟩;exact⟨a,ha,h1,h2.symm⟩
theorem ZiR (q:List HArc) (i:Int):ZhU q (ZcQ q i):=by
 unfold ZcQ;rcases Znh q (nxA i false q) (q.length+1)with h|h
 ·exact h
 ·exfalso
  have:=ZkY q (B:=q.length) (fun out h1 h2=>by
   have:=Zbo out (q.map (·.t)) (Zp0 h2) fun x hx=>by
    obtain⟨a,ha,rfl⟩:=h1 x hx;exact List.mem_map.2 ⟨a,ha,rfl⟩
   rwa [List.length_map]at this) (q.length+1) (nxA i false q) (fun x hx=>by
    obtain⟨a,ha,_,rfl⟩:=mem_nxF.1 hx;exact⟨a,ha,rfl⟩) (ZjC _ _ _ _ List.Pairwise.nil)
  omega
theorem Zlx (q:List HArc) (i:Int) (P:Int→Prop) (h0:∀x∈nxA i false q,P x) (h1:∀a∈q,P a.f→P a.t):∀x∈ZcQ q i,P x:=by
 have hr:∀(l:List HArc) (out:List Int),(∀a∈l,a∈q)→(∀x∈out,P x)→∀x∈Zbd q out l,P x:=by
  intro l
  induction l with
  |nil=>intro out _ h;exact h
  |cons a l ih=>
   intro out hl h;unfold Zbd;refine ih _ (fun b hb=>hl b (List.mem_cons_of_mem _ hb)) ?_
   split
   ·rename_i hc
    intro x hx;rcases(Zbi _ _ _).1 hx with rfl|hx
    ·exact h1 a (hl a (List.mem_cons_self ..)) (h _ hc.1)
    ·exact h x hx
   ·exact h
 have hi:∀(n:Nat) (out:List Int),(∀x∈out,P x)→∀x∈itR q n out,P x:=by
  intro n
  induction n with
  |zero=>intro out h;exact h
  |succ n ih=>intro out h;exact ih _ (hr q out (fun _ h=>h) h)
 exact hi _ _ h0
theorem ZkX (q:List HArc):∀(n:Nat) (out:List Int),∀x∈out,x∈itR q n out
 |0,_,_,h=>h
 |n+1,out,x,h=>ZkX q n _ x (Zji q q out x h)
def nxN (q:List HArc) (i:Nat):List Nat:=(nxA (i:Int) false q).map Int.toNat
def Zbw (N:Nat) (q:List HArc):Prop:=∀a∈q,0≤a.f∧a.f<(N:Int)∧0≤a.t∧a.t<(N:Int)
theorem Zcy {q:List HArc} {N:Nat} (hq:Zbw N q) {i x:Nat}:x∈nxN q i↔∃a∈q,a.f=(i:Int)∧a.t=(x:Int):=by
 unfold nxN;rw[List.mem_map]
 constructor
 ·rintro⟨y,hy,rfl⟩;obtain⟨a,ha,h1,rfl⟩:=mem_nxF.1 hy;have:=(hq a ha).2.2.1;exact⟨a,ha,h1,by omega⟩
 ·rintro⟨a,ha,h1,h2⟩;exact⟨a.t,mem_nxF.2 ⟨a,ha,h1,rfl⟩,by omega⟩
theorem Zrh {q:List HArc} {N:Nat} (hq:Zbw N q) {i x:Nat} (h:x∈nxN q i):x<N:=by
 obtain⟨a,ha,_,h2⟩:=(Zcy hq).1 h;have:=(hq a ha).2.2.2;omega
theorem Zow {q:List HArc} {N:Nat} (hq:Zbw N q) (i:Nat):(nxN q i).map (fun x:Nat=>(x:Int))=nxA (i:Int) false q:=by
 unfold nxN;rw[List.map_map]
 conv=>rhs;rw[←List.map_id (nxA (i:Int) false q)]
 refine List.map_congr_left fun x hx=> ?_
 obtain⟨a,ha,_,rfl⟩:=mem_nxF.1 hx;have:=(hq a ha).2.2.1;simp only[Function.comp,id];omega
theorem ZgY {q:List HArc} {N:Nat} (hq:Zbw N q) (i x:Nat):(x:Int)∈ZcQ q i↔∃y∈nxN q i,Rch (nxN q) y x:=by
 constructor
 ·intro h
  have:=Zlx q i (fun z=>∃y∈nxN q i,Rch (nxN q) y z.toNat) (fun z hz=>by
   obtain⟨a,ha,h1,rfl⟩:=mem_nxF.1 hz;have:=(hq a ha).2.2.1;exact⟨a.t.toNat,(Zcy hq).2 ⟨a,ha,h1,by omega⟩,Rch.refl _⟩) (fun a ha ⟨y,hy,h1⟩=>by
   have:=hq a ha;exact⟨y,hy,h1.step ((Zcy hq).2 ⟨a,ha,by omega,by omega⟩)⟩) _ h
  simpa using this
 ·rintro⟨y,hy,h⟩
  have h0:(y:Int)∈ZcQ q i:=by
   obtain⟨a,ha,h1,h2⟩:=(Zcy hq).1 hy;exact ZkX q _ _ _ (mem_nxF.2 ⟨a,ha,h1,h2⟩)
  refine Rch.stay (S:=fun z:Nat=>(z:Int)∈ZcQ q i) (fun a ha b hb=> ?_) h h0;obtain⟨c,hc,h1,h2⟩:=(Zcy hq).1 hb;rw[←h2];exact ZiR q i c hc (by rw[h1];exact ha)
theorem ZmP {nx:Nat→List Nat} {a b:Nat} (hne:a≠b):Rch nx a b↔∃y∈nx a,Rch nx y b:=by
 constructor
 ·intro h
  induction h with
  |refl=>exact absurd rfl hne
  | @step b c h hm ih=>
   by_cases e:a=b
   ·subst e;exact⟨_,hm,Rch.refl _⟩
   ·obtain⟨y,hy,h1⟩:=ih e;exact⟨y,hy,h1.step hm⟩
 ·rintro⟨y,hy,h⟩;exact(Rch.one hy).trans h
/-! labels -/
def Zgm (p:Nat→Bool):Nat→Nat→Nat
 |0,l=>l
 |k+1,l=>Zgm p k (if p k=true then k else l)
theorem Ziq (p:Nat→Bool):∀(n l:Nat),(Zgm p n l=l∧∀k,k<n→p k=false)∨(Zgm p n l<n∧p (Zgm p n l)=true∧∀k,k<Zgm p n l→p k=false)
 |0,l=>Or.inl ⟨rfl,fun k h=>by omega⟩
 |n+1,l=>by
  unfold Zgm;rcases Ziq p n (if p n=true then n else l)with ⟨h1,h2⟩|⟨h1,h2,h3⟩
  ·by_cases hp:p n=true
   ·rw[if_pos hp]at h1 ⊢;exact Or.inr ⟨by omega,by rw[h1];exact hp,fun k hk=>h2 k (by omega)⟩
   ·rw[if_neg hp]at h1 ⊢;refine Or.inl ⟨h1,fun k hk=> ?_⟩
    by_cases e:k=n
    ·subst e;simpa using hp
    ·exact h2 k (by omega)
  ·exact Or.inr ⟨by omega,h2,h3⟩
def Zhn (q:List HArc) (i k:Nat):Bool:=decide ((k:Int)∈ZcQ q i)&&decide ((i:Int)∈ZcQ q k)
def Zbj (q:List HArc) (i:Nat):Nat:=Zgm (Zhn q i) i i
theorem IsLab.one {nx:Nat→List Nat} {x a b:Nat} (h:IsLab nx x a) (k:IsLab nx x b):a=b:=by
 have h1:=h.2.2 b k.1 k.2.1;have h2:=k.2.2 a h.1 h.2.1;omega
theorem ZnI {q:List HArc} {N:Nat} (hq:Zbw N q) {i k:Nat} (hne:k≠i):Zhn q i k=true↔Rch (nxN q) i k∧Rch (nxN q) k i:=by
 unfold Zhn;rw[Bool.and_eq_true,decide_eq_true_iff,decide_eq_true_iff,ZgY hq,ZgY hq,ZmP (Ne.symm hne),ZmP hne]
theorem ZhE {q:List HArc} {N:Nat} (hq:Zbw N q) (i:Nat):IsLab (nxN q) i (Zbj q i):=by
 unfold Zbj;have hb:∀k,k<i→(Zhn q i k=true↔Rch (nxN q) i k∧Rch (nxN q) k i):=fun k hk=>ZnI hq (by omega)
 rcases Ziq (Zhn q i) i i with ⟨h1,h2⟩|⟨h1,h2,h3⟩
 ·rw[h1];refine⟨Rch.refl _,Rch.refl _,fun y h4 h5=> ?_⟩
  apply Classical.byContradiction
  intro hn;have:=(hb y (by omega)).2 ⟨h4,h5⟩;rw[h2 y (by omega)]at this
  cases this
 ·have h4:=(hb _ h1).1 h2;refine⟨h4.1,h4.2,fun y h5 h6=> ?_⟩
  apply Classical.byContradiction
  intro hn;have:=(hb y (by omega)).2 ⟨h5,h6⟩;rw[h3 y (by omega)]at this
  cases this
def Zcs (N:Nat) (q:List HArc):List Int:=(List.range N).map fun i=>(Zbj q i:Int)
end
/- Components of a digraph,plain:the components by their labels,and who goes round. -/
section
/-! who goes round -/
section
variable {q:List HArc} {N:Nat}
theorem Znd (hq:Zbw N q) {i j:Nat}:Zbj q i=Zbj q j↔Rch (nxN q) i j∧Rch (nxN q) j i:=by
 have hi:=ZhE hq i;have hj:=ZhE hq j
 constructor
 ·intro e;rw[e]at hi;exact⟨hi.1.trans hj.2.1,hj.1.trans hi.2.1⟩
 ·rintro⟨h1,h2⟩;refine IsLab.one (x:=i) hi ⟨h1.trans hj.1,hj.2.1.trans h2,fun y h3 h4=>hj.2.2 y (h2.trans h3) (h4.trans h1)⟩
end
end
end Go.Proofs.YtonblekdfinpkaaGreat
