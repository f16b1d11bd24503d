/- Digraphs: the contracts by the arcs alone, nil or not. -/
import Derived.Test.YtfcefnpnomlgbaaMaf
import Derived.Test.YtfcefnpnomlgbaaMai
import Derived.Test.YtfcefnpnomlgbaaMbe
import Derived.Test.YtfcefnpnomlgbaaMbf
namespace Go.Proofs.Ytfcefnpnomlgbaa
set_option linter.unusedSimpArgs false
set_option linter.unusedVariables false
open Go.RowKit
theorem Zgr (w:World) (mask:Int):Calls Try.prog 18 #[.pointer none,.int .i64 mask] w (Zep w []):=by
 have HN:=Lib.hid (Zcy w)
 go_enter Try.func18,Try.ntmps18
 go_wp2_with fail
 refine(HN.out).mono ?_
 rintro e w1 ⟨rfl,rfl⟩
 go_wp2
 go_loopg [5,9] 0 (fun gk s i wr=>gk=0∧i= .int .i64 0∧s= .slice none 0 0∧w=wr)
 case atStart=>exact⟨rfl,rfl,rfl,rfl⟩
 case round=>
  obtain⟨hgk,rfl,rfl,rfl⟩:=hrel
  go_wp2
  go_ret
  exact⟨none,0,rfl,World.ownsRow_nil _ _ _ _,Upd.refl _ _⟩
def DGs (w:World) (G:Nat→Prop) (g N K:Nat) (q:List HArc):Prop:=
 ∃out inn ob ib oh ih base,GIs w G g out inn (q.length:Int) ob ib oh ih base∧DOk N K q out inn∧base≤w.heap.size
def DG (w:World) (G:Nat→Prop) (p:Option Addr) (N K:Nat) (q:List HArc):Prop:=
 (p=none∧N=0∧q=[])∨∃g,p=some ⟨g,0,none⟩∧DGs w G g N K q
def DTs (w:World) (G:Nat→Prop) (p:Option Addr) (N K:Nat) (q:List HArc) (r:Value) (e:Ending) (w':World):Prop:=
 ∃G',e= .returned r∧DG w' G' p N K q∧Upd G w w'∧∀k,G' k→G k∨w.heap.size≤k
def ZgP (w:World) (N K:Nat) (q:List HArc) (e:Ending) (w':World):Prop:=
 ∃G g,e= .returned (.pointer (some ⟨g,0,none⟩))∧DG w' G (some ⟨g,0,none⟩) N K q∧Upd No w w'∧∀k,G k→w.heap.size≤k
theorem DG.nil (w:World) (G:Nat→Prop):DG w G none 0 0 []:= .inl ⟨rfl,rfl,rfl⟩
section
variable {w:World} {G:Nat→Prop} {p:Option Addr} {N K:Nat} {q:List HArc}
theorem DG.upd (h:DG w G p N K q) {S:Nat→Prop} {w':World} (k:Upd S w w') (hn:∀i,G i→¬S i):DG w' G p N K q:=by
 rcases h with h|⟨g,rfl,out,inn,ob,ib,oh,ih,base,h1,h2,h3⟩
 ·exact .inl h
 ·exact .inr ⟨g,rfl,out,inn,ob,ib,oh,ih,base,h1.upd k hn,h2,Nat.le_trans h3 k.size⟩
theorem DG.no (h:DG w G p N K q) {w':World} (k:Upd No w w'):DG w' G p N K q:=h.upd k fun _ _=>id
theorem DG.sorted (h:DG w G p N K q):ZG q:=by
 rcases h with ⟨_,_,rfl⟩|⟨g,rfl,out,inn,ob,ib,oh,ih,base,h1,h2,h3⟩
 ·exact List.Pairwise.nil
 ·exact h2.s
theorem DG.right (h:DG w G p N K q):∀a∈q,Zd N a=true:=by
 rcases h with ⟨_,_,rfl⟩|⟨g,rfl,out,inn,ob,ib,oh,ih,base,h1,h2,h3⟩
 ·simp
 ·exact h2.r
theorem DG.few (h:DG w G p N K q):q.length≤K:=by
 rcases h with ⟨_,_,rfl⟩|⟨g,rfl,out,inn,ob,ib,oh,ih,base,h1,h2,h3⟩
 ·simp
 ·exact h2.fq
theorem DG.old (h:DG w G p N K q) (hp:p≠none):∀k,G k→k<w.heap.size:=by
 rcases h with ⟨rfl,_,rfl⟩|⟨g,rfl,out,inn,ob,ib,oh,ih,base,h1,h2,h3⟩
 ·exact absurd rfl hp
 ·exact h1.old
theorem Zf8 (h:DG w G p N K q):Calls Try.prog 26 #[.pointer p] w fun e w'=>e= .returned (.int .i64 (N:Int))∧w=w':=by
 rcases h with ⟨rfl,rfl,rfl⟩|⟨g,rfl,out,inn,ob,ib,oh,ih,base,h1,h2,h3⟩
 ·exact Zcy w
 ·rw[←h2.lo];exact Zdy h1
theorem Zdz (h:DG w G p N K q) (i mask:Int):Calls Try.prog 19 #[.pointer p,.int .i64 i,.int .i64 mask] w (ZaX w (nxA i false (ofA mask q))):=by
 rcases h with ⟨rfl,rfl,rfl⟩|⟨g,rfl,out,inn,ob,ib,oh,ih,base,h1,h2,h3⟩
 ·exact Zgp w i mask
 ·rw[←h2.next_];exact ZgG h1 h2.ko i mask
theorem Zgq (h:DG w G p N K q) (mask:Int):Calls Try.prog 18 #[.pointer p,.int .i64 mask] w (Zep w (ofA mask q)):=by
 rcases h with ⟨rfl,rfl,rfl⟩|⟨g,rfl,out,inn,ob,ib,oh,ih,base,h1,h2,h3⟩
 ·exact Zgr w mask
 ·rw[←h2.arcs_,←h2.lo];exact ZgK h1 h2.ko mask
theorem ZfG (h:DG w G p N K q) (hK:K<100000) (a:HArc):Calls Try.prog 21 #[.pointer p,.agg a.cells.toArray] w (DTs w G p N (K+1) (Zav N q a) (.int .i64 (Zb6 N q a))):=by
 rcases h with ⟨rfl,rfl,rfl⟩|⟨g,rfl,out,inn,ob,ib,oh,ih,base,h1,h2,h3⟩
 ·have hr:¬Zd 0 a=true:=fun e=>by rw[Z0]at e;omega
  refine(ZgL w a).mono ?_
  rintro e w' ⟨rfl,hu⟩
  exact⟨G,by unfold Zb6;rw[if_neg hr],.inl ⟨rfl,rfl,by unfold Zav;rw[if_neg hr]⟩,hu.mono (fun _ _ e=>e.elim),fun _ e=> .inl e⟩
 ·have hq:=h2.fq
  refine(Zg9 (n:=q.length) h1 h2.so h2.si ⟨fun l hl=>by have:=h2.fo l hl;omega,fun l hl=>by have:=h2.fi l hl;omega⟩ (by omega) h3 a).mono ?_
  rintro e w' ⟨G',oh',ih',rfl,k1,k2,k3⟩
  rw[h2.addN_]at k1
  exact⟨G',by rw[h2.addW_],.inr ⟨g,rfl,_,_,_,_,_,_,_,k1,h2.add a,Nat.le_trans h3 k2.size⟩,k2,k3⟩
end
theorem ZgJ (w:World) (n:Int):Calls Try.prog 22 #[.int .i64 n] w (ZgP w (ZD n) 0 []):=by
 refine(Zg5 w n).mono ?_
 rintro e w' ⟨G,g,ob,ib,oh,ih,rfl,h1,h2,h3⟩
 exact⟨G,g,rfl,.inr ⟨g,rfl,_,_,_,_,_,_,_,h1,DOk.nil _,Nat.le_refl _⟩,h2,h3⟩
end Go.Proofs.Ytfcefnpnomlgbaa
/- Whether a number is among some. -/
namespace Go.Proofs.Ytfcefnpnomlgbaa
set_option linter.unusedSimpArgs false
set_option linter.unusedVariables false
open Go.RowKit
theorem ZgB (w:World) (F:Nat→Prop) (A:Option Addr) (c:Nat) (l:List Int) (a:Int) (h:Ints F w A l) (hl:l.length≤4398046511103):
  Calls Try.prog 20 #[.slice A l.length c,.int .i64 a] w fun e w'=>e= .returned (.bool (decide (a∈l)))∧w=w':=by
 go_enter Try.func20,Try.ntmps20
 go_wp2
 go_loopg [9] l.length (fun gk i wr=>∃k:Nat,k+gk=l.length∧i= .int .i64 k∧Hid (decide (a∈l)=decide (a∈l.drop k))∧w=wr)
 case atStart=>exact⟨0,by omega,rfl,Lib.hid (by simp),rfl⟩
 case round=>
  obtain⟨k,hgk,rfl,hs,rfl⟩:=hrel
  by_cases hlt:k<l.length
  ·obtain⟨ax,rfl,hc0⟩:=h.at_ hlt
   obtain⟨x,hx⟩:∃x,l[k]=x:=⟨_,rfl⟩
   have hd:=Lib.hid (show l.drop k=x::l.drop (k+1) by rw[←hx];exact List.drop_eq_getElem_cons hlt)
   rw[hx]at hc0
   have b1:(0:Int)≤(k:Int):=Int.natCast_nonneg _
   have b2:(k:Int)<(l.length:Int):=by omega
   clear hx
   by_cases he:x=a
   ·have heb:(x==a)=true:=by rw[he];simp
    have He:=Lib.hid he
    clear he
    go_wp2
    go_ret
    exact⟨by rw[hs.out,hd.out,He.out];simp,rfl⟩
   ·have heb:(x==a)=false:=by simpa using he
    have He:=Lib.hid he
    clear he
    go_wp2
    go_roundg (gk-1)
    case measure=>omega
    case rel=>
     refine⟨k+1,by omega,by go_num,Lib.hid ?_,rfl⟩
     rw[hs.out,hd.out]
     have:=He.out
     simp only[List.mem_cons,decide_eq_decide]
     exact⟨fun e=>e.elim (fun e=>absurd e.symm this) id,.inr⟩
  ·obtain rfl:k=l.length:=by omega
   go_wp2
   go_ret
   exact⟨by rw[hs.out,List.drop_length];simp,rfl⟩
end Go.Proofs.Ytfcefnpnomlgbaa
/- Digraphs:the law of both sides. -/
namespace Go.Proofs.Ytfcefnpnomlgbaa
set_option linter.unusedSimpArgs false
set_option linter.unusedVariables false
open Go.RowKit
def DMa (w:World) (g N K:Nat) (q:List HArc) (W:World):Prop:=
 ∃G,DG W G (some ⟨g,0,none⟩) N K q∧Upd No w W∧∀k,G k→w.heap.size≤k
namespace DMa
variable {w W W':World} {g N K:Nat} {q:List HArc}
theorem no (h:DMa w g N K q W) (k:Upd No W W'):DMa w g N K q W':=by
 obtain⟨G,h1,h2,h3⟩:=h
 exact⟨G,h1.no k,h2.trans k,h3⟩
theorem upd (h:DMa w g N K q W):Upd No w W:=by
 obtain⟨G,h1,h2,h3⟩:=h
 exact h2
theorem is (h:DMa w g N K q W):∃G,DG W G (some ⟨g,0,none⟩) N K q:=by
 obtain⟨G,h1,h2,h3⟩:=h
 exact⟨G,h1⟩
end DMa
theorem ZgH (w:World) (n:Int):Calls Try.prog 22 #[.int .i64 n] w fun e w'=>∃g,e= .returned (.pointer (some ⟨g,0,none⟩))∧DMa w g (ZD n) 0 [] w':=by
 refine(ZgJ w n).mono ?_
 rintro e w' ⟨G,g,rfl,h1,h2,h3⟩
 exact⟨g,rfl,G,h1,h2,h3⟩
theorem ZgI {w W:World} {g N K:Nat} {q:List HArc} (h:DMa w g N K q W) (hK:K<100000) (a:HArc):Calls Try.prog 21 #[.pointer (some ⟨g,0,none⟩),.agg a.cells.toArray] W fun e w'=>e= .returned (.int .i64 (Zb6 N q a))∧DMa w g N (K+1) (Zav N q a) w':=by
 obtain⟨G,h1,h2,h3⟩:=h
 refine(ZfG h1 hK a).mono ?_
 rintro e w' ⟨G',rfl,k1,k2,k3⟩
 refine⟨rfl,G',k1,h2.then_ k2 fun i e=> .inr (h3 i e),fun k hk=> ?_⟩
 have:=h2.size
 rcases k3 k hk with e|e
 ·exact h3 k e
 ·omega
def ZaI (N:Nat):List HArc→List HArc→List HArc
 |q,[]=>q
 |q,a::l=>ZaI N (Zav N q a) l
theorem Zed (N:Nat) (q:List HArc) (a:HArc) (l:List HArc):ZaI N q (a::l)=ZaI N (Zav N q a) l:=rfl
end Go.Proofs.Ytfcefnpnomlgbaa
/- Components of a digraph,the document's,plain:who is reached,labels,members,who goes round. -/
namespace Go.Proofs.Ytfcefnpnomlgbaa
set_option linter.unusedSimpArgs false
set_option linter.unusedVariables false
/-! reach:as often as there are arcs,and once more -/
def ZK (q:List HArc):List Int→List HArc→List Int
 |out,[]=>out
 |out,a::l=>ZK q (if a.f∈out∧a.t∉out then ZU a.t out else out) l
def itR (q:List HArc):Nat→List Int→List Int
 |0,out=>out
 |n+1,out=>itR q n (ZK q out q)
def ZT (q:List HArc) (i:Int):List Int:=itR q (q.length+1) (nxA i false q)
theorem Zdb {n:Int}:∀{l:List Int},n∉l→(ZU n l).length=l.length+1
 |[],_=>rfl
 |x::l,h=>by
  simp only[List.mem_cons,not_or]at h
  unfold ZU
  split
  ·rw[List.filter_eq_self.2 (fun y hy=> ?_)]
   ·rfl
   ·have:y≠n:=fun e=>by
     subst e
     rcases List.mem_cons.1 hy with e|e
     ·exact h.1 e
     ·exact h.2 e
    simpa using this
  ·rw[List.length_cons,Zdb h.2,List.length_cons]
theorem Zc9 (q:List HArc):∀(l:List HArc) (out:List Int),∀x∈out,x∈ZK q out l
 |[],_,_,h=>h
 |a::l,out,x,h=>by
  unfold ZK
  apply Zc9
  split
  ·exact(Zab _ _ _).2 (Or.inr h)
  ·exact h
theorem ZbV (q:List HArc):∀(l:List HArc) (out:List Int),out.length≤(ZK q out l).length∧((ZK q out l).length=out.length→ZK q out l=out∧∀a∈l,a.f∈out→a.t∈out)
 |[],out=>⟨Nat.le_refl _,fun _=>⟨rfl,by simp⟩⟩
 |a::l,out=>by
  unfold ZK
  split
  ·rename_i h
   have h1:=(ZbV q l (ZU a.t out)).1
   have h2:=Zdb h.2
   exact⟨by omega,fun e=>by omega⟩
  ·rename_i h
   obtain⟨h1,h2⟩:=ZbV q l out
   refine⟨h1,fun e=>⟨(h2 e).1,fun b hb=> ?_⟩⟩
   rcases List.mem_cons.1 hb with rfl|hb
   ·intro hf;exact Classical.byContradiction fun ht=>h ⟨hf,ht⟩
   ·exact(h2 e).2 b hb
theorem ZdT (q:List HArc) {B:Nat} (hB:∀out:List Int,(∀x∈out,∃a∈q,a.t=x)→out.Pairwise (·<·)→out.length≤B):∀(n:Nat) (out:List Int),(∀x∈out,∃a∈q,a.t=x)→out.Pairwise (·<·)→(itR q n out).length≤B
 |0,out,h1,h2=>hB out h1 h2
 |n+1,out,h1,h2=>by
  unfold itR
  refine ZdT q hB n _ ?_ ?_
  ·have:∀(l:List HArc) (out:List Int),(∀a∈l,a∈q)→(∀x∈out,∃a∈q,a.t=x)→∀x∈ZK q out l,∃a∈q,a.t=x:=by
    intro l
    induction l with
    |nil=>intro out _ h;exact h
    |cons a l ih=>
     intro out hl h
     unfold ZK
     refine ih _ (fun b hb=>hl b (List.mem_cons_of_mem _ hb)) ?_
     split
     ·intro x hx
      rcases(Zab _ _ _).1 hx with rfl|hx
      ·exact⟨a,hl a (List.mem_cons_self ..),rfl⟩
      ·exact h x hx
     ·exact h
   exact this q out (fun _ h=>h) h1
  ·have:∀(l:List HArc) (out:List Int),out.Pairwise (·<·)→(ZK q out l).Pairwise (·<·):=by
    intro l
    induction l with
    |nil=>intro out h;exact h
    |cons a l ih=>
     intro out h
     unfold ZK
     refine ih _ ?_
     split
     ·exact ZbG _ _ h
     ·exact h
   exact this q out h2
theorem ZaD:∀(l m:List Int),l.Nodup→(∀x∈l,x∈m)→l.length≤m.length
 |[],_,_,_=>Nat.zero_le _
 |x::l,m,hn,hs=>by
  obtain⟨h1,h2⟩:=List.nodup_cons.1 hn
  have hx:=hs x (List.mem_cons_self ..)
  have:=ZaD l (m.erase x) h2 fun y hy=>(List.mem_erase_of_ne (fun e:y=x=>h1 (by rw[←e];exact hy))).2 (hs y (List.mem_cons_of_mem _ hy))
  rw[List.length_erase_of_mem hx]at this
  have:=List.length_pos_of_mem hx
  rw[List.length_cons];omega
theorem ZdP {l:List Int} (h:l.Pairwise (·<·)):l.Nodup:=by
 rw[List.nodup_iff_pairwise_ne]
 exact h.imp fun h e=>by omega
def ZcA (q:List HArc) (out:List Int):Prop:=∀a∈q,a.f∈out→a.t∈out
theorem ZbS {q:List HArc} {out:List Int} (h:ZcA q out):∀l:List HArc,(∀a∈l,a∈q)→ZK q out l=out
 |[],_=>rfl
 |a::l,hl=>by
  unfold ZK
  rw[if_neg (fun e=>e.2 (h a (hl a (List.mem_cons_self ..)) e.1))]
  exact ZbS h l fun b hb=>hl b (List.mem_cons_of_mem _ hb)
theorem ZdU (q:List HArc):∀(n:Nat) (out:List Int),itR q (n+1) out=ZK q (itR q n out) q
 |0,_=>rfl
 |n+1,out=>by
  show itR q (n+1) (ZK q out q)=_
  rw[ZdU q n];rfl
theorem ZeI (q:List HArc) (out:List Int):∀n,ZcA q (itR q n out)∨out.length+n≤(itR q n out).length
 |0=>Or.inr (Nat.le_refl _)
 |n+1=>by
  rw[ZdU]
  rcases ZeI q out n with h|h
  ·left
   rw[ZbS h q fun _ h=>h]
   exact h
  ·have h1:=ZbV q q (itR q n out)
   by_cases e:(ZK q (itR q n out) q).length=(itR q n out).length
   ·left
    have:=(h1.2 e)
    rw[this.1]
    exact this.2
   ·right;omega
theorem mem_nxF {q:List HArc} {i x:Int}:x∈nxA i false q↔∃a∈q,a.f=i∧a.t=x:=by
 unfold nxA
 rw[Zcv]
 simp only[List.not_mem_nil,false_or,Bool.false_eq_true,if_false]
 constructor
 ·rintro⟨a,ha,h1,h2⟩;exact⟨a,ha,h1,h2.symm⟩
 ·rintro⟨a,ha,h1,h2⟩;exact⟨a,ha,h1,h2.symm⟩
theorem ZcZ (q:List HArc) (i:Int):ZcA q (ZT q i):=by
 unfold ZT
 rcases ZeI q (nxA i false q) (q.length+1)with h|h
 ·exact h
 ·exfalso
  have:=ZdT q (B:=q.length) (fun out h1 h2=>by
   have:=ZaD out (q.map (·.t)) (ZdP h2) fun x hx=>by
    obtain⟨a,ha,rfl⟩:=h1 x hx
    exact List.mem_map.2 ⟨a,ha,rfl⟩
   rwa [List.length_map]at this) (q.length+1) (nxA i false q) (fun x hx=>by
    obtain⟨a,ha,_,rfl⟩:=mem_nxF.1 hx
    exact⟨a,ha,rfl⟩) (Zch _ _ _ _ List.Pairwise.nil)
  omega
theorem Zd7 (q:List HArc) (i:Int) (P:Int→Prop) (h0:∀x∈nxA i false q,P x) (h1:∀a∈q,P a.f→P a.t):∀x∈ZT q i,P x:=by
 have hr:∀(l:List HArc) (out:List Int),(∀a∈l,a∈q)→(∀x∈out,P x)→∀x∈ZK q out l,P x:=by
  intro l
  induction l with
  |nil=>intro out _ h;exact h
  |cons a l ih=>
   intro out hl h
   unfold ZK
   refine ih _ (fun b hb=>hl b (List.mem_cons_of_mem _ hb)) ?_
   split
   ·rename_i hc
    intro x hx
    rcases(Zab _ _ _).1 hx with rfl|hx
    ·exact h1 a (hl a (List.mem_cons_self ..)) (h _ hc.1)
    ·exact h x hx
   ·exact h
 have hi:∀(n:Nat) (out:List Int),(∀x∈out,P x)→∀x∈itR q n out,P x:=by
  intro n
  induction n with
  |zero=>intro out h;exact h
  |succ n ih=>intro out h;exact ih _ (hr q out (fun _ h=>h) h)
 exact hi _ _ h0
theorem ZdS (q:List HArc):∀(n:Nat) (out:List Int),∀x∈out,x∈itR q n out
 |0,_,_,h=>h
 |n+1,out,x,h=>ZdS q n _ x (Zc9 q q out x h)
def nxN (q:List HArc) (i:Nat):List Nat:=(nxA (i:Int) false q).map Int.toNat
def Zq (N:Nat) (q:List HArc):Prop:=∀a∈q,0≤a.f∧a.f<(N:Int)∧0≤a.t∧a.t<(N:Int)
theorem ZN {q:List HArc} {N:Nat} (hq:Zq N q) {i x:Nat}:x∈nxN q i↔∃a∈q,a.f=(i:Int)∧a.t=(x:Int):=by
 unfold nxN
 rw[List.mem_map]
 constructor
 ·rintro⟨y,hy,rfl⟩
  obtain⟨a,ha,h1,rfl⟩:=mem_nxF.1 hy
  have:=(hq a ha).2.2.1
  exact⟨a,ha,h1,by omega⟩
 ·rintro⟨a,ha,h1,h2⟩
  exact⟨a.t,mem_nxF.2 ⟨a,ha,h1,rfl⟩,by omega⟩
theorem ZeC {q:List HArc} {N:Nat} (hq:Zq N q) {i x:Nat} (h:x∈nxN q i):x<N:=by
 obtain⟨a,ha,_,h2⟩:=(ZN hq).1 h
 have:=(hq a ha).2.2.2
 omega
theorem Zff {q:List HArc} {N:Nat} (hq:Zq N q) (i:Nat):(nxN q i).map (fun x:Nat=>(x:Int))=nxA (i:Int) false q:=by
 unfold nxN
 rw[List.map_map]
 conv=>rhs;rw[←List.map_id (nxA (i:Int) false q)]
 refine List.map_congr_left fun x hx=> ?_
 obtain⟨a,ha,_,rfl⟩:=mem_nxF.1 hx
 have:=(hq a ha).2.2.1
 simp only[Function.comp,id]
 omega
theorem Zbm {q:List HArc} {N:Nat} (hq:Zq N q) (i x:Nat):(x:Int)∈ZT q i↔∃y∈nxN q i,Rch (nxN q) y x:=by
 constructor
 ·intro h
  have:=Zd7 q i (fun z=>∃y∈nxN q i,Rch (nxN q) y z.toNat) (fun z hz=>by
   obtain⟨a,ha,h1,rfl⟩:=mem_nxF.1 hz
   have:=(hq a ha).2.2.1
   exact⟨a.t.toNat,(ZN hq).2 ⟨a,ha,h1,by omega⟩,Rch.refl _⟩) (fun a ha ⟨y,hy,h1⟩=>by
   have:=hq a ha
   exact⟨y,hy,h1.step ((ZN hq).2 ⟨a,ha,by omega,by omega⟩)⟩) _ h
  simpa using this
 ·rintro⟨y,hy,h⟩
  have h0:(y:Int)∈ZT q i:=by
   obtain⟨a,ha,h1,h2⟩:=(ZN hq).1 hy
   exact ZdS q _ _ _ (mem_nxF.2 ⟨a,ha,h1,h2⟩)
  refine Rch.stay (S:=fun z:Nat=>(z:Int)∈ZT q i) (fun a ha b hb=> ?_) h h0
  obtain⟨c,hc,h1,h2⟩:=(ZN hq).1 hb
  rw[←h2]
  exact ZcZ q i c hc (by rw[h1];exact ha)
theorem Zda {nx:Nat→List Nat} {a b:Nat} (hne:a≠b):Rch nx a b↔∃y∈nx a,Rch nx y b:=by
 constructor
 ·intro h
  induction h with
  |refl=>exact absurd rfl hne
  | @step b c h hm ih=>
   by_cases e:a=b
   ·subst e;exact⟨_,hm,Rch.refl _⟩
   ·obtain⟨y,hy,h1⟩:=ih e
    exact⟨y,hy,h1.step hm⟩
 ·rintro⟨y,hy,h⟩
  exact(Rch.one hy).trans h
/-! labels -/
def ZbY (p:Nat→Bool):Nat→Nat→Nat
 |0,l=>l
 |k+1,l=>ZbY p k (if p k=true then k else l)
theorem ZbA (p:Nat→Bool):∀(n l:Nat),(ZbY p n l=l∧∀k,k<n→p k=false)∨(ZbY p n l<n∧p (ZbY p n l)=true∧∀k,k<ZbY p n l→p k=false)
 |0,l=>Or.inl ⟨rfl,fun k h=>by omega⟩
 |n+1,l=>by
  unfold ZbY
  rcases ZbA p n (if p n=true then n else l)with ⟨h1,h2⟩|⟨h1,h2,h3⟩
  ·by_cases hp:p n=true
   ·rw[if_pos hp]at h1 ⊢
    exact Or.inr ⟨by omega,by rw[h1];exact hp,fun k hk=>h2 k (by omega)⟩
   ·rw[if_neg hp]at h1 ⊢
    refine Or.inl ⟨h1,fun k hk=> ?_⟩
    by_cases e:k=n
    ·subst e;simpa using hp
    ·exact h2 k (by omega)
  ·exact Or.inr ⟨by omega,h2,h3⟩
def ZbO (q:List HArc) (i k:Nat):Bool:=decide ((k:Int)∈ZT q i)&&decide ((i:Int)∈ZT q k)
def Za (q:List HArc) (i:Nat):Nat:=ZbY (ZbO q i) i i
theorem IsLab.one {nx:Nat→List Nat} {x a b:Nat} (h:IsLab nx x a) (k:IsLab nx x b):a=b:=by
 have h1:=h.2.2 b k.1 k.2.1
 have h2:=k.2.2 a h.1 h.2.1
 omega
theorem ZeR {q:List HArc} {N:Nat} (hq:Zq N q) {i k:Nat} (hne:k≠i):ZbO q i k=true↔Rch (nxN q) i k∧Rch (nxN q) k i:=by
 unfold ZbO
 rw[Bool.and_eq_true,decide_eq_true_iff,decide_eq_true_iff,Zbm hq,Zbm hq,Zda (Ne.symm hne),Zda hne]
theorem ZaL {q:List HArc} {N:Nat} (hq:Zq N q) (i:Nat):IsLab (nxN q) i (Za q i):=by
 unfold Za
 have hb:∀k,k<i→(ZbO q i k=true↔Rch (nxN q) i k∧Rch (nxN q) k i):=fun k hk=>ZeR hq (by omega)
 rcases ZbA (ZbO q i) i i with ⟨h1,h2⟩|⟨h1,h2,h3⟩
 ·rw[h1]
  refine⟨Rch.refl _,Rch.refl _,fun y h4 h5=> ?_⟩
  apply Classical.byContradiction
  intro hn
  have:=(hb y (by omega)).2 ⟨h4,h5⟩
  rw[h2 y (by omega)]at this
  cases this
 ·have h4:=(hb _ h1).1 h2
  refine⟨h4.1,h4.2,fun y h5 h6=> ?_⟩
  apply Classical.byContradiction
  intro hn
  have:=(hb y (by omega)).2 ⟨h5,h6⟩
  rw[h3 y (by omega)]at this
  cases this
def Zr (N:Nat) (q:List HArc):List Int:=(List.range N).map fun i=>(Za q i:Int)
def Zak (N:Nat) (q:List HArc):List Int:=((List.range N).filter fun i:Nat=>decide ((i:Int)∈ZT q i)).map fun i:Nat=>(i:Int)
end Go.Proofs.Ytfcefnpnomlgbaa
