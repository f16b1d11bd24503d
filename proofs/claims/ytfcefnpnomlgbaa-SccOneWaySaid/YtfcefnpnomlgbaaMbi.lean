/- Ways: the digraph that is made of arcs; how far each node is. -/
import Derived.Shelf.Bits.Mul64
import Derived.Test.YtfcefnpnomlgbaaProg
import Derived.Test.YtfcefnpnomlgbaaMaa
import Derived.Test.YtfcefnpnomlgbaaMai
import Derived.Test.YtfcefnpnomlgbaaMal
import Derived.Test.YtfcefnpnomlgbaaMam
import Derived.Test.YtfcefnpnomlgbaaMap
import Derived.Test.YtfcefnpnomlgbaaMbd
import Derived.Test.YtfcefnpnomlgbaaMbg
namespace Go.Proofs.Ytfcefnpnomlgbaa
set_option linter.unusedSimpArgs false
set_option linter.unusedVariables false
open Go.RowKit
set_option maxRecDepth 100000 in
theorem ZfF (F:Nat→Prop) (w:World) (n:Int) (A:Option Addr) (c:Nat) (l:List HArc) (hL:ArcsL F w A l) (hll:l.length≤1000):
  Calls Try.prog 6 #[.int .i64 n,.slice A l.length c] w fun e w'=>∃g,e= .returned (.pointer (some ⟨g,0,none⟩))∧DMa w g (ZD n) l.length (ZaI (ZD n) [] l) w':=by
 have HNew:=Lib.hid (fun W=>ZgH W n)
 have HL:=Lib.hid hL
 clear hL
 generalize ZD n=N at*
 go_enter Try.func6,Try.ntmps6
 go_wp2_with fail
 refine(HNew.out w).mono ?_
 rintro e w2 ⟨g,rfl,hd2⟩
 go_wp2
 go_loopg [12] l.length (fun gk i wr=>∃(k:Nat) (q:List HArc),k+gk=l.length∧i= .int .i64 k∧Hid (DMa w g N k q wr)∧Hid (ZaI N q (l.drop k)=ZaI N [] l))
 case atStart=>exact⟨0,[],by omega,rfl,Lib.hid hd2,Lib.hid rfl⟩
 case round=>
  obtain⟨k,q,hgk,rfl,hd,hq⟩:=hrel
  by_cases hlt:k<l.length
  ·obtain⟨ax,rfl,q0,q1,q2,q3⟩:=(HL.out.upd hd.out.upd (fun _ _=>id)).at_ hlt
   obtain⟨x,hx⟩:∃x,l[k]=x:=⟨_,rfl⟩
   rw[hx]at q0 q1 q2 q3
   have hst:=hq.out
   rw[show l.drop k=x::l.drop (k+1) by rw[←hx];exact List.drop_eq_getElem_cons hlt,Zed]at hst
   have HS:=Lib.hid hst
   clear hx hst hq
   have b1:(0:Int)≤(k:Int):=Int.natCast_nonneg _
   have b2:(k:Int)<(l.length:Int):=by omega
   have bo:=Blk.new wr 28 [.int .i64 x.f,.int .i64 x.t,.int .i64 x.kind,.int .i64 x.label]
   have g0:=bo.cell 0
   have g1:=bo.cell 1
   have g2:=bo.cell 2
   have g3:=bo.cell 3
   simp only[List.getElem?_cons_zero,List.getElem?_cons_succ]at g0 g1 g2 g3
   have HD:=Lib.hid (hd.out.no ((Upd.refl No wr).alloc (.cells #[.int .i64 x.f,.int .i64 x.t,.int .i64 x.kind,.int .i64 x.label] 28)))
   clear bo hd
   go_wp2_with fail
   refine(ZgI HD.out (by omega) x).mono ?_
   rintro e w3 ⟨rfl,hd3⟩
   go_wp2
   go_roundg (gk-1)
   case measure=>omega
   case rel=>exact⟨k+1,Zav N q x,by omega,by go_num,Lib.hid hd3,HS⟩
  ·obtain rfl:k=l.length:=by omega
   have HQ:=Lib.hid (show q=ZaI N [] l by have:=hq.out;rw[List.drop_length]at this;exact this)
   clear hq
   go_wp2
   go_ret
   exact⟨g,rfl,HQ.out▸hd.out⟩
section
variable {w:World} {G:Nat→Prop} {p:Option Addr} {N K:Nat} {q:List HArc}
def Zc7 (N:Nat) (least node:Int):Bool:=decide (max least 0≤node)&&decide (node<(N:Int))
end
end Go.Proofs.Ytfcefnpnomlgbaa
/- Ways:how far each node is. -/
namespace Go.Proofs.Ytfcefnpnomlgbaa
set_option linter.unusedSimpArgs false
set_option linter.unusedVariables false
open Go.RowKit
def Zgd (N:Nat) (d:Int→Int):List Int:=(List.range N).map fun i:Nat=>d (i:Int)
namespace DQ
variable {w W W':World} {dg qg N:Nat} {d:Int→Int} {qu us:List Int} {A:Option Addr}
end DQ
def Zfz (p:List HArc):Int→List Int:=fun x=>nxA x true p
end Go.Proofs.Ytfcefnpnomlgbaa
/- Ways:the first of the shortest. -/
namespace Go.Proofs.Ytfcefnpnomlgbaa
set_option linter.unusedSimpArgs false
set_option linter.unusedVariables false
open Go.RowKit
structure DistOf (N:Nat) (p:List HArc) (least node:Int) (d:Int→Int):Prop where
 lo:∀u,-1≤d u
 hi:∀u,d u<(N:Int)∨d u<0
 inn:∀u,0≤d u→0≤u∧u<(N:Int)
 clo:∀v,0≤d v→∀u∈Zfz p v,least≤u→0≤d u∧d u≤d v+1
 par:∀u,0≤d u→(u=node∧Zc7 N least node=true)∨∃v,u∈Zfz p v∧least≤u∧0≤d v∧d v+1=d u
 z:∀u,d u=0↔(u=node∧Zc7 N least node=true)
theorem DistOf.le {N:Nat} {p:List HArc} {least node:Int} {d:Int→Int} (h:DistOf N p least node d) {u:Int} (hu:0≤d u):least≤u:=by
 rcases h.par u hu with ⟨e,hs⟩|⟨v,h1,h2,h3,h4⟩
 ·unfold Zc7 at hs
  rw[Bool.and_eq_true,decide_eq_true_eq]at hs
  omega
 ·exact h2
end Go.Proofs.Ytfcefnpnomlgbaa
/- Closed walks,plain:what distances say of walks. -/
namespace Go.Proofs.Ytfcefnpnomlgbaa
set_option linter.unusedSimpArgs false
set_option linter.unusedVariables false
open Go.RowKit
section
variable {α:Type}
end
def okW (p:List HArc) (least:Int):Int→List HArc→Int→Prop
 |u,[],v=>u=v
 |u,a::l,v=>a∈p∧a.f=u∧least≤u∧okW p least a.t l v
theorem Zbk {p:List HArc} {least:Int}:∀{l m:List HArc} {u x v:Int},okW p least u l x→okW p least x m v→okW p least u (l++m) v
 |[],m,u,x,v,h,k=>by
  have:u=x:=h
  subst this
  exact k
 |a::l,m,u,x,v,h,k=>⟨h.1,h.2.1,h.2.2.1,Zbk h.2.2.2 k⟩
theorem Zbz {p:List HArc} {least:Int}:∀{l m:List HArc} {u v:Int},okW p least u (l++m) v→∃x,okW p least u l x∧okW p least x m v
 |[],m,u,v,h=>⟨u,rfl,h⟩
 |a::l,m,u,v,h=>by
  obtain⟨x,h1,h2⟩:=Zbz (l:=l) h.2.2.2
  exact⟨x,⟨h.1,h.2.1,h.2.2.1,h1⟩,h2⟩
theorem Zbj {p p':List HArc} {least least':Int} (hp:∀a∈p,a∈p') (hl:least'≤least):∀{l:List HArc} {u v:Int},okW p least u l v→okW p' least' u l v
 |[],u,v,h=>h
 |a::l,u,v,h=>⟨hp a h.1,h.2.1,Int.le_trans hl h.2.2.1,Zbj hp hl h.2.2.2⟩
/-! masks -/
def isM (must:Int) (a:HArc):Bool:=Z8 must a.kind
def Zs (must:Int) (l:List HArc):Bool:=l.any (isM must)
end Go.Proofs.Ytfcefnpnomlgbaa
/- Closed walks,plain:the shortest from a node,and the first of these. -/
namespace Go.Proofs.Ytfcefnpnomlgbaa
set_option linter.unusedSimpArgs false
set_option linter.unusedVariables false
open Go.RowKit
theorem Zaz (must:Int) (l m:List HArc):Zs must (l++m)=(Zs must l||Zs must m):=by
 unfold Zs
 rw[List.any_append]
section
variable {p:List HArc} {must i:Int} {da dw:Int→Int}
end
section
variable {p:List HArc} {must i:Int} {da dw:Int→Int}
end
def Zef:List HArc→List HArc→Prop
 |a::l,b::m=>ZP a b=true∨(a=b∧Zef l m)
 |_,_=>False
end Go.Proofs.Ytfcefnpnomlgbaa
/- Closed walks,plain:the shortest of all;it meets no node twice. -/
namespace Go.Proofs.Ytfcefnpnomlgbaa
set_option linter.unusedSimpArgs false
set_option linter.unusedVariables false
open Go.RowKit
theorem Zdi {p:List HArc} {least:Int}:∀{l:List HArc} {u v:Int} {a:HArc},okW p least u l v→a∈l→∃l1 l2,l=l1++a::l2∧okW p least u l1 a.f∧okW p least a.f (a::l2) v
 |[],u,v,a,h,ha=>by cases ha
 |b::l,u,v,a,h,ha=>by
  rcases List.mem_cons.1 ha with rfl|ha
  ·exact⟨[],l,rfl,h.2.1.symm,by rw[h.2.1];exact h⟩
  ·obtain⟨l1,l2,e,h1,h2⟩:=Zdi h.2.2.2 ha
   exact⟨b::l1,l2,by rw[e];rfl,⟨h.1,h.2.1,h.2.2.1,h1⟩,h2⟩
theorem Zbc {p:List HArc} {least:Int}:∀{l:List HArc} {u v:Int},okW p least u l v→∀a∈l,a∈p
 |[],_,_,_,a,ha=>by cases ha
 |b::l,u,v,h,a,ha=>by
  rcases List.mem_cons.1 ha with rfl|ha
  ·exact h.1
  ·exact Zbc h.2.2.2 a ha
theorem ZcM {p:List HArc} {least least':Int}:∀{l:List HArc} {u v:Int},okW p least u l v→(∀a∈l,least'≤a.f)→okW p least' u l v
 |[],_,_,h,_=>h
 |b::l,u,v,h,hl=>⟨h.1,h.2.1,by have:=hl b List.mem_cons_self;have:=h.2.1;omega,ZcM h.2.2.2 (fun a ha=>hl a (List.mem_cons_of_mem _ ha))⟩
theorem ZcQ:∀{l:List HArc},l≠[]→∃a∈l,∀b∈l,a.f≤b.f
 |[],h=>absurd rfl h
 |[a],_=>⟨a,List.mem_singleton.2 rfl,fun b hb=>by rw[List.mem_singleton]at hb;rw[hb];exact Int.le_refl _⟩
 |a::c::l,_=>by
  obtain⟨m,hm,hl⟩:=ZcQ (l:=c::l) (by simp)
  by_cases h:a.f≤m.f
  ·refine⟨a,List.mem_cons_self,fun b hb=> ?_⟩
   rcases List.mem_cons.1 hb with rfl|hb
   ·exact Int.le_refl _
   ·have:=hl b hb;omega
  ·refine⟨m,List.mem_cons_of_mem _ hm,fun b hb=> ?_⟩
   rcases List.mem_cons.1 hb with rfl|hb
   ·omega
   ·exact hl b hb
theorem ZdK {p:List HArc} {must least u:Int} {c:List HArc} (h:okW p least u c u) (hc:c≠[]):∃v c',c'≠[]∧okW p v v c' v∧c'.length=c.length∧Zs must c'=Zs must c∧∃a∈c,v=a.f:=by
 obtain⟨a,ha,hmin⟩:=ZcQ hc
 obtain⟨l1,l2,e,h1,h2⟩:=Zdi h ha
 subst e
 refine⟨a.f,(a::l2)++l1,by simp,?_,by simp only[List.length_append,List.length_cons];omega,by rw[Zaz,Zaz,Bool.or_comm],a,ha,rfl⟩
 refine ZcM (Zbk h2 h1) fun b hb=>hmin b ?_
 rcases List.mem_append.1 hb with hb|hb
 ·exact List.mem_append_right _ hb
 ·exact List.mem_append_left _ hb
theorem Zd9 {c:List HArc} (h:∀l1 a l2 b l3,c=l1++a::(l2++b::l3)→a.f≠b.f):c.Pairwise fun a b=>a.f≠b.f:=by
 induction c with
 |nil=>exact List.Pairwise.nil
 |cons a l ih=>
  refine List.pairwise_cons.2 ⟨fun b hb=> ?_,ih fun l1 x l2 y l3 e=>h (a::l1) x l2 y l3 (by rw[e];rfl)⟩
  obtain⟨l2,l3,e⟩:=List.append_of_mem hb
  exact h [] a l2 b l3 (by rw[e];rfl)
theorem Zd2 {p:List HArc} {must i:Int} {need:Bool} {c:List HArc} (hw:okW p i i c i) (hm:need=true→Zs must c=true)
  (hown:∀c',c'≠[]→okW p i i c' i→(need=true→Zs must c'=true)→c.length≤c'.length)
  (hall:∀v c',c'≠[]→okW p v v c' v→(need=true→Zs must c'=true)→c.length≤c'.length):c.Pairwise fun a b=>a.f≠b.f:=by
 refine Zd9 fun l1 a l2 b l3 e hab=> ?_
 subst e
 obtain⟨x,h1,h2⟩:=Zbz hw
 have ha:x=a.f:=h2.2.1.symm
 subst ha
 have h3:okW p i a.f ((a::l2)++b::l3) i:=h2
 obtain⟨y,h4,h5⟩:=Zbz h3
 have hb:y=b.f:=h5.2.1.symm
 subst hb
 have hR:okW p i i (l1++b::l3) i:=Zbk (by rw[←hab];exact h1) h5
 have hS:okW p i b.f (a::l2) b.f:=by
  have:=h4
  rw[hab]at this
  exact this
 have hlen:(l1++b::l3).length<(l1++a::(l2++b::l3)).length∧(a::l2).length<(l1++a::(l2++b::l3)).length:=by
  simp only[List.length_append,List.length_cons]
  omega
 by_cases hq:need=true→Zs must (l1++b::l3)=true
 ·have:=hown _ (by simp) hR hq
  omega
 ·have hn:need=true:=Classical.byContradiction fun h=>hq (fun e=>absurd e h)
  have hr:Zs must (l1++b::l3)=false:=by
   have:¬Zs must (l1++b::l3)=true:=fun e=>hq (fun _=>e)
   simpa using this
  have hmm:=hm hn
  rw[Zaz]at hmm hr
  have e1:a::(l2++b::l3)=(a::l2)++b::l3:=rfl
  rw[e1,Zaz]at hmm
  rw[Bool.or_eq_false_iff]at hr
  rw[hr.1,hr.2,Bool.false_or,Bool.or_false]at hmm
  obtain⟨v,c',k1,k2,k3,k4,_⟩:=ZdK (must:=must) hS (by simp)
  have:=hall v c' k1 k2 (fun _=>by rw[k4];exact hmm)
  omega
end Go.Proofs.Ytfcefnpnomlgbaa
/- Closed walks:what is left behind an arc. -/
namespace Go.Proofs.Ytfcefnpnomlgbaa
set_option linter.unusedSimpArgs false
set_option linter.unusedVariables false
open Go.RowKit
structure LoopI (w:World) (A B:Option Addr) (N:Nat) (da dw:Int→Int):Prop where
 a:Ints (fun _=>True) w A (Zgd N da)
 b:Ints (fun _=>True) w B (Zgd N dw)
theorem LoopI.upd {w w':World} {A B:Option Addr} {N:Nat} {da dw:Int→Int} (h:LoopI w A B N da dw) (hu:Upd No w w'):LoopI w' A B N da dw:=⟨h.a.upd hu (fun _ _=>id),h.b.upd hu (fun _ _=>id)⟩
end Go.Proofs.Ytfcefnpnomlgbaa
/- Closed walks,plain:ids and their ranks;what the first of the shortest is. -/
namespace Go.Proofs.Ytfcefnpnomlgbaa
set_option linter.unusedSimpArgs false
set_option linter.unusedVariables false
open Go.RowKit
def rk:List Int→Int→Int
 |[],_=>0
 |a::s,x=>if a<x then rk s x+1 else 0
theorem Zcf:∀(s:List Int) (x:Int),0≤rk s x∧rk s x≤(s.length:Int)
 |[],x=>by simp[rk]
 |a::s,x=>by
  have:=Zcf s x
  unfold rk
  simp only[List.length_cons]
  split<;>omega
theorem ZdN:∀{s:List Int} {x:Int},(∀y∈s,x≤y)→rk s x=0
 |[],_,_=>rfl
 |a::s,x,h=>by
  unfold rk
  rw[if_neg (by have:=h a List.mem_cons_self;omega)]
theorem ZbF:∀{s:List Int} {x y:Int},s.Pairwise (·<·)→x∈s→x<y→rk s x<rk s y
 |[],x,y,_,h,_=>by cases h
 |a::s,x,y,hs,h,hxy=>by
  rw[List.pairwise_cons]at hs
  rcases List.mem_cons.1 h with rfl|h
  ·have e1:rk (x::s) x=0:=ZdN fun z hz=>by
    rcases List.mem_cons.1 hz with rfl|hz
    ·exact Int.le_refl _
    ·exact Int.le_of_lt (hs.1 z hz)
   rw[e1]
   unfold rk
   rw[if_pos hxy]
   have:=Zcf s y
   omega
  ·have h1:=hs.1 x h
   have h2:=ZbF hs.2 h hxy
   unfold rk
   rw[if_pos h1,if_pos (by omega)]
   omega
theorem ZgA {s:List Int} {x y:Int} (hs:s.Pairwise (·<·)) (hx:x∈s) (h:x≤y):rk s x≤rk s y:=by
 rcases Classical.em (x=y)with rfl|e
 ·exact Int.le_refl _
 ·have:=ZbF hs hx (show x<y by omega)
  omega
theorem Zbb:∀{s:List Int} {x:Int},s.Pairwise (·<·)→x∈s→rk s x<(s.length:Int)∧s.getD (rk s x).toNat 0=x
 |[],x,_,h=>by cases h
 |a::s,x,hs,h=>by
  rw[List.pairwise_cons]at hs
  rcases List.mem_cons.1 h with rfl|h
  ·have e1:rk (x::s) x=0:=ZdN fun z hz=>by
    rcases List.mem_cons.1 hz with rfl|hz
    ·exact Int.le_refl _
    ·exact Int.le_of_lt (hs.1 z hz)
   rw[e1]
   simp
  ·have h1:=hs.1 x h
   have h2:=Zbb hs.2 h
   have h3:=Zcf s x
   unfold rk
   rw[if_pos h1]
   refine⟨by simp only[List.length_cons];omega,?_⟩
   rw[show(rk s x+1).toNat=(rk s x).toNat+1 by omega,List.getD_cons_succ]
   exact h2.2
theorem Zdu {s:List Int} {i:Int} (h0:0≤i) (h1:i<(s.length:Int)):s.getD i.toNat 0∈s:=by
 rw[List.getD_eq_getElem?_getD,List.getElem?_eq_getElem (show i.toNat<s.length by omega)]
 exact List.getElem_mem _
theorem ZdO {s:List Int} {i:Int} (hs:s.Pairwise (·<·)) (h0:0≤i) (h1:i<(s.length:Int)):rk s (s.getD i.toNat 0)=i:=by
 have hm:=Zdu h0 h1
 have h2:=Zbb hs hm
 have h3:=Zcf s (s.getD i.toNat 0)
 have hp:=List.pairwise_iff_getElem.1 hs
 rw[List.getD_eq_getElem?_getD,List.getD_eq_getElem?_getD]at h2
 rw[List.getD_eq_getElem?_getD]at h3 ⊢
 have hi:i.toNat<s.length:=by omega
 rw[List.getElem?_eq_getElem hi]at h2 h3 ⊢
 simp only[Option.getD_some]at h2 h3 ⊢
 have hj:(rk s s[i.toNat]).toNat<s.length:=by omega
 rw[List.getElem?_eq_getElem hj]at h2
 simp only[Option.getD_some]at h2
 rcases Nat.lt_trichotomy (rk s s[i.toNat]).toNat i.toNat with e|e|e
 ·have:=hp _ _ hj hi e;omega
 ·omega
 ·have:=hp _ _ hi hj e;omega
theorem Zf5 {s:List Int} {i j:Int} (hs:s.Pairwise (·<·)) (h0:0≤i) (h1:j<(s.length:Int)) (h:i≤j):s.getD i.toNat 0≤s.getD j.toNat 0:=by
 rcases Classical.em (i=j)with rfl|e
 ·exact Int.le_refl _
 ·refine Classical.byContradiction fun hc=> ?_
  have:=ZbF hs (Zdu (s:=s) (i:=j) (by omega) h1) (show s.getD j.toNat 0<s.getD i.toNat 0 by omega)
  rw[ZdO hs h0 (by omega),ZdO hs (by omega) h1]at this
  omega
def toR (ids keys:List Int) (a:HArc):HArc:=⟨rk ids a.f,rk ids a.t,a.kind,rk keys a.label⟩
def unR (ids keys:List Int) (a:HArc):HArc:=⟨ids.getD a.f.toNat 0,ids.getD a.t.toNat 0,a.kind,keys.getD a.label.toNat 0⟩
structure Rk (D:List HArc) (ids keys:List Int) (q:List HArc):Prop where
 si:ids.Pairwise (·<·)
 sk:keys.Pairwise (·<·)
 mi:∀a∈D,a.f∈ids∧a.t∈ids
 ml:∀a∈D,a.label∈keys
 mq:∀b,b∈q↔∃a∈D,b=toR ids keys a
section
variable {D:List HArc} {ids keys:List Int} {q:List HArc}
theorem Rk.un (h:Rk D ids keys q) {a:HArc} (ha:a∈D):unR ids keys (toR ids keys a)=a:=by
 obtain⟨h1,h2⟩:=h.mi a ha
 have h3:=h.ml a ha
 obtain⟨af,at',ak,al⟩:=a
 simp only at h1 h2 h3
 unfold unR toR
 simp only[(Zbb h.si h1).2,(Zbb h.si h2).2,(Zbb h.sk h3).2]
theorem Rk.to (h:Rk D ids keys q) {b:HArc} (hb:b∈q):unR ids keys b∈D∧toR ids keys (unR ids keys b)=b:=by
 obtain⟨a,ha,rfl⟩:=(h.mq b).1 hb
 rw[h.un ha]
 exact⟨ha,rfl⟩
theorem Rk.less (h:Rk D ids keys q) {a b:HArc} (ha:a∈D) (hb:b∈D):ZP a b=true→ZP (toR ids keys a) (toR ids keys b)=true:=by
 have a1:=h.mi a ha
 have b1:=h.mi b hb
 have a2:=h.ml a ha
 have b2:=h.ml b hb
 rw[ZX,ZX]
 unfold toR
 simp only
 rintro(e|⟨e1,e|⟨e2,e|⟨e3,e⟩⟩⟩)
 ·exact .inl (ZbF h.si a1.1 e)
 ·exact .inr ⟨by rw[e1],.inl e⟩
 ·exact .inr ⟨by rw[e1],.inr ⟨e2,.inl (ZbF h.sk a2 e)⟩⟩
 ·exact .inr ⟨by rw[e1],.inr ⟨e2,.inr ⟨by rw[e3],ZbF h.si a1.2 e⟩⟩⟩
theorem Rk.up (h:Rk D ids keys q) {least v:Int} (hl:least∈ids):∀{l:List HArc} {u:Int},okW D least u l v→u∈ids→okW q (rk ids least) (rk ids u) (l.map (toR ids keys)) (rk ids v)
 |[],u,hw,_=>by
  have hw:u=v:=hw
  rw[hw]
  exact rfl
 |a::l,u,hw,hu=>by
  obtain⟨ha,haf,hlu,hw⟩:=hw
  exact⟨(h.mq _).2 ⟨a,ha,rfl⟩,by unfold toR;simp only;rw[haf],ZgA h.si hl hlu,h.up hl hw (h.mi a ha).2⟩
theorem Rk.down (h:Rk D ids keys q) {i k:Int} (hi:0≤i):∀{l:List HArc} {j:Int},okW q i j l k→0≤j→j<(ids.length:Int)→okW D (ids.getD i.toNat 0) (ids.getD j.toNat 0) (l.map (unR ids keys)) (ids.getD k.toNat 0)
 |[],j,hw,_,_=>by
  have hw:j=k:=hw
  rw[hw]
  exact rfl
 |a::l,j,hw,h0,h1=>by
  obtain⟨ha,haf,hij,hw⟩:=hw
  have ha':=h.to ha
  obtain⟨b,hb,e⟩:=(h.mq a).1 ha
  have ht:a.t=rk ids b.t:=by rw[e];rfl
  have h2:=Zcf ids b.t
  have h3:=Zbb h.si (h.mi b hb).2
  refine⟨ha'.1,by show ids.getD a.f.toNat 0=_;rw[haf],Zf5 h.si hi h1 hij,?_⟩
  exact h.down hi hw (by omega) (by omega)
end
theorem Zfn {f:HArc→HArc} (hf:∀a,(f a).kind=a.kind) (must:Int) (l:List HArc):Zs must (l.map f)=Zs must l:=by
 unfold Zs
 rw[List.any_map]
 congr 1
 funext a
 show isM must (f a)=isM must a
 unfold isM
 rw[hf]
structure Short (D:List HArc) (must:Int) (need:Bool) (v:Int) (c:List HArc):Prop where
 ne:c≠[]
 w:okW D v v c v
 m:need=true→Zs must c=true
 le:∀u c',c'≠[]→okW D u u c' u→(need=true→Zs must c'=true)→c.length≤c'.length∧(c.length=c'.length→v≤u∧(v=u→c'=c∨Zef c c'))
def NoWay (D:List HArc) (must:Int) (need:Bool):Prop:=∀u c',c'≠[]→okW D u u c' u→(need=true→Zs must c'=true)→False
theorem Zdq:∀{l m:List HArc},Zef l m→Zef m l→False
 |[],m,h,_=>by cases m<;>exact h.elim
 |a::l,[],h,_=>h.elim
 |a::l,b::m,h,k=>by
  rcases h with h|⟨e,h⟩
  ·rcases k with k|⟨e,k⟩
   ·exact Za1 a (Za8 a b a h k)
   ·rw[e]at h;exact Za1 a h
  ·rcases k with k|⟨e2,k⟩
   ·rw[e]at k;exact Za1 b k
   ·exact Zdq h k
theorem Short.same {D:List HArc} {must:Int} {need:Bool} {v u:Int} {c d:List HArc} (h:Short D must need v c) (k:Short D must need u d):v=u∧c=d:=by
 have h1:=h.le u d k.ne k.w k.m
 have k1:=k.le v c h.ne h.w h.m
 have hl:c.length=d.length:=by omega
 have h2:=h1.2 hl
 have k2:=k1.2 hl.symm
 have hv:v=u:=by omega
 refine⟨hv,?_⟩
 rcases h2.2 hv with e|e
 ·exact e.symm
 ·rcases k2.2 hv.symm with e2|e2
  ·exact e2
  ·exact(Zdq e e2).elim
theorem Short.some {D:List HArc} {must:Int} {need:Bool} {v:Int} {c:List HArc} (h:Short D must need v c) (k:NoWay D must need):False:=k v c h.ne h.w h.m
theorem Short.simple {D:List HArc} {must:Int} {need:Bool} {v:Int} {c:List HArc} (h:Short D must need v c):c.Pairwise fun a b=>a.f≠b.f:=
 Zd2 h.w h.m (fun c' h1 h2 h3=>(h.le v c' h1 h2 h3).1) (fun u c' h1 h2 h3=>(h.le u c' h1 h2 h3).1)
theorem Rk.none {D:List HArc} {ids keys:List Int} {q:List HArc} (h:Rk D ids keys q) {must:Int} {need:Bool} (k:NoWay q must need):NoWay D must need:=by
 intro u c' n1 n2 n3
 have hu:u∈ids:=by
  cases c' with
  |nil=>exact absurd rfl n1
  |cons a l=>rw[←n2.2.1];exact(h.mi a n2.1).1
 exact k (rk ids u) (c'.map (toR ids keys)) (by simpa using n1) (h.up hu n2 hu) (fun e=>by rw[Zfn (f:=toR ids keys) (fun _=>rfl)];exact n3 e)
theorem Short.more {D D':List HArc} {must:Int} {need:Bool} {v u:Int} {c d:List HArc} (h:Short D must need v c) (hD:∀a∈D,a∈D') (k:Short D' must need u d):d.length≤c.length:=
 (k.le v c h.ne (Zbj hD (Int.le_refl _) h.w) h.m).1
theorem Zcg {p p':List HArc} {least:Int}:∀{l:List HArc} {u v:Int},okW p least u l v→(∀a∈l,a∈p')→okW p' least u l v
 |[],u,v,h,_=>h
 |a::l,u,v,h,hp=>⟨hp a List.mem_cons_self,h.2.1,h.2.2.1,Zcg h.2.2.2 (fun x hx=>hp x (List.mem_cons_of_mem _ hx))⟩
theorem Short.less {D D':List HArc} {must:Int} {need:Bool} {v:Int} {c:List HArc} (h:Short D must need v c) (hD:∀a∈D',a∈D) (hc:∀a∈c,a∈D'):Short D' must need v c:=
 ⟨h.ne,Zcg h.w hc,h.m,fun u c' n1 n2 n3=>h.le u c' n1 (Zbj hD (Int.le_refl _) n2) n3⟩
theorem Short.must {D:List HArc} {must must':Int} {need:Bool} {v:Int} {c:List HArc} (h:Short D must need v c) (hm:∀a∈D,isM must a=isM must' a):Short D must' need v c:=by
 have hh:∀l:List HArc,(∀a∈l,a∈D)→Zs must l=Zs must' l:=by
  intro l hl
  unfold Zs
  induction l with
  |nil=>rfl
  |cons a l ih=>rw[List.any_cons,List.any_cons,hm a (hl a List.mem_cons_self),ih (fun x hx=>hl x (List.mem_cons_of_mem _ hx))]
 exact⟨h.ne,h.w,fun e=>by rw[←hh c (Zbc h.w)];exact h.m e,fun u c' n1 n2 n3=>h.le u c' n1 n2 (fun e=>by rw[hh c' (Zbc n2)];exact n3 e)⟩
theorem NoWay.must {D:List HArc} {must must':Int} {need:Bool} (h:NoWay D must need) (hm:∀a∈D,isM must a=isM must' a):NoWay D must' need:=by
 have hh:∀l:List HArc,(∀a∈l,a∈D)→Zs must l=Zs must' l:=by
  intro l hl
  unfold Zs
  induction l with
  |nil=>rfl
  |cons a l ih=>rw[List.any_cons,List.any_cons,hm a (hl a List.mem_cons_self),ih (fun x hx=>hl x (List.mem_cons_of_mem _ hx))]
 exact fun u c' n1 n2 n3=>h u c' n1 n2 (fun e=>by rw[hh c' (Zbc n2)];exact n3 e)
end Go.Proofs.Ytfcefnpnomlgbaa
/- Closed walks,plain:the document's search tells the same. -/
namespace Go.Proofs.Ytfcefnpnomlgbaa
set_option linter.unusedSimpArgs false
set_option linter.unusedVariables false
open Go.RowKit
def Edge.arc (e:Edge):HArc:=⟨e.f,e.t,e.k,e.key⟩
def HArc.edge (a:HArc):Edge:=⟨a.f,a.t,a.kind,a.label⟩
section
variable {l:List Edge} {must lo:Int}
end
end Go.Proofs.Ytfcefnpnomlgbaa
