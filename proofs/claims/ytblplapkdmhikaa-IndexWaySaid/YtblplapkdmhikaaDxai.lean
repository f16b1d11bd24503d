/- A region that draws its order, taken part by part: where all that stands Zab a part waits for the part's last operation. -/
import Derived.OrdersHeld
import Derived.Deep.RegionHeld3
import Derived.Test.YtblplapkdmhikaaDxae
namespace Go.Proofs.Ytblplapkdmhikaa
set_option linter.unusedVariables false
set_option linter.unusedSimpArgs false
section
open Go.RowKit
def Zf (m:Nat):List Go.Edge→List Go.Edge
 |[]=>[]
 |e::l=>if m≤e.on then {e with on:=e.on-m}::Zf m l else Zf m l
def Zi (m:Nat):Option (Nat×Bool)→Option (Nat×Bool)
 |none=>none
 |some (j,b)=>if j<m then none else some (j-m,b)
def ZO (m:Nat) (o:Oper):Oper:={o with after:=(Zf m o.after.toList).toArray,guard:=Zi m o.guard}
theorem Ze (m:Nat) (dst:Option Tmp) (op:Op) (ty:TypeId) (pos:String) (l:List Go.Edge) (g:Option (Nat×Bool)):ZO m ⟨dst,op,ty,pos,l.toArray,g⟩=⟨dst,op,ty,pos,(Zf m l).toArray,Zi m g⟩:=rfl
def Zl (m:Nat):Nat→Nat→List Oper→List Oper
 |_,_,[]=>[]
 |0,0,_::_=>[]
 |0,k+1,o::l=>ZO m o::Zl m 0 k l
 |d+1,k,_::l=>Zl m d k l
def ZC (m k:Nat) (ops:Array Oper):Array Oper:=(Zl m m k ops.toList).toArray
theorem Za (m k:Nat) (l:List Oper):ZC m k l.toArray=(Zl m m k l).toArray:=rfl
theorem Zbt (m:Nat):∀(d k:Nat) (l:List Oper),Zl m d k l=((l.drop d).take k).map (ZO m)
 |d,k,[]=>by unfold Zl;cases d<;>simp
 |0,0,_::_=>by simp[Zl]
 |0,k+1,o::l=>by unfold Zl;rw[Zbt m 0 k l];simp
 |d+1,k,_::l=>by
  unfold Zl;rw[Zbt m d k l];simp
def Zae (m n:Nat):Array Bool:=Array.ofFn (n:=n) fun i=>decide (i.1<m)
theorem ZeO (n:Nat):Zae 0 n=Array.replicate n false:=by
 unfold Zae
 apply Array.ext
 ·simp
 ·intro i h1 h2;simp
theorem Zal (m n i:Nat) (d:Bool):(Zae m n).getD i d=if i<n then decide (i<m) else d:=by
 unfold Zae
 by_cases h:i<n<;>simp[h]
theorem Zan {m k i:Nat} {ops:Array Oper} (hi:i<k):(ZC m k ops)[i]? =(ops[m+i]?).map (ZO m):=by
 unfold ZC;rw[Zbt];simp[hi]
theorem ZbL {m k i:Nat} {ops:Array Oper} (hi:k≤i):(ZC m k ops)[i]? =none:=by
 unfold ZC;rw[Zbt,List.getElem?_toArray];refine List.getElem?_eq_none ?_;rw[List.length_map,List.length_take];omega
section
variable {P:Program} {ops C:Array Oper} {Q Q':Exit→Act→World→Prop} {md:Region.Mode}
theorem Zcg:∀(f:Nat) (listed:Array Bool) (a:Act) (w:World),wpAny P md ops Q f listed a w→wpAny P md ops Q (f+1) listed a w
 |0,listed,a,w,h=>⟨fun _=>h.2,fun i hi=>by rw[h.1]at hi;cases hi⟩
 |f+1,listed,a,w,h=>⟨h.1,fun i hi=>wpOp_mono (fun a w=>Zcg f _ a w) (h.2 i hi)⟩
theorem Zev (x:Nat) {f:Nat} {listed:Array Bool} {a:Act} {w:World} (h:wpAny P md ops Q f listed a w):wpAny P md ops Q (x+f) listed a w:=by
 induction x with
 |zero=>rwa [Nat.zero_add]
 |succ x ih=>rw[Nat.add_right_comm];exact Zcg _ _ _ _ ih
theorem Zeu {i:Nat} {o:Oper} (ho:ops[i]? =some o) {K:Act→World→Prop} {G:Act→Prop} {a:Act} {w:World} (hG:G a) (hput:∀a v,G a→G (a.put o.dst v)) (hdef:∀a d,G a→G {a with defers:=d::a.defers})
  (h:wpOp P ops Q i K a w):wpOp P ops Q i (fun a' w'=>G a'∧K a' w') a w:=by
 unfold wpOp at*;simp only[ho]at*
 split
 ·rename_i hw
  simp only[hw,if_true]at h;rcases h with h|h
  case inr=>exact .inr h
  refine .inl ?_;unfold Oper.wp at*
  generalize (execOp a.eval o).run P w=r at*
  cases r with
  |ok n w'=>
   cases n<;>simp only[Oper.upon]at h ⊢
   case value u=>exact⟨hput _ _ hG,h⟩
   case skip=>exact⟨hput _ _ hG,h⟩
   case defer d=>exact⟨hput _ _ (hdef _ _ hG),h⟩
   case enter f args=>
    refine Calls.mono h fun e w'' he=> ?_
    cases e with
    |returned u=>exact⟨hput _ _ hG,he⟩
    |panicked c=>exact he
    |outgrown=>exact he
   case row row args=>exact Rows.mono h fun u w'' he=>⟨hput _ _ hG,he⟩
  |halt x w'=>cases x<;>simp only[Oper.upon]at h ⊢<;>exact h
 ·rename_i hw
  simp only[hw]at h;exact⟨hput _ _ hG,h⟩
theorem Zet {m i j:Nat} {o:Oper} (ho:ops[j]? =some o) (hc:C[i]? =some (ZO m o)) {a:Act} {w:World} (hw:Region.wanted o (yielded ops a.tmps)=Region.wanted (ZO m o) (yielded C a.tmps))
  (hQp:∀c a w,Q' (.panic c) a w→Q (.panic c) a w) (hQo:LetsOut Q'→LetsOut Q) {K:Act→World→Prop} (h:wpOp P C Q' i K a w):wpOp P ops Q j K a w:=by
 unfold wpOp at*;simp only[ho,hc]at*;rw[hw]
 split
 ·rename_i hw
  simp only[hw,if_true]at h;rcases h with h|⟨h1,h2⟩
  case inr=>exact .inr ⟨h1,hQo h2⟩
  refine .inl ?_;unfold Oper.wp at*;rw[show execOp a.eval (ZO m o)=execOp a.eval o from rfl]at h
  generalize (execOp a.eval o).run P w=r at*
  cases r with
  |ok n w'=>
   cases n<;>simp only[Oper.upon]at h ⊢
   case value u=>exact h
   case skip=>exact h
   case defer d=>exact h
   case enter f args=>
    refine Calls.mono h fun e w'' he=> ?_
    cases e with
    |returned u=>exact he
    |panicked c=>exact hQp _ _ _ he
    |outgrown=>exact hQo he
   case row row args=>exact h
  |halt x w'=>cases x<;>simp only[Oper.upon]at h ⊢;exact hQp _ _ _ h
 ·rename_i hw
  simp only[hw]at h;exact h
end
def Zcm (md:Region.Mode) (m k:Nat) (ops:Array Oper):Bool:=
 decide (m+k≤ops.size)&&decide (0<k)&&
 ((List.range ops.size).all fun j=>decide (j<m+k)||(match ops[j]? with|some o=>o.after.any (fun e=>Region.binds md e&&(e.on==m+k-1||decide (m+k≤e.on)))|none=>true))&&
 ((List.range (k-1)).all fun i=>(List.range k).any fun j=>decide (i<j)&&(match ops[m+j]? with|some o=>o.after.any (fun e=>Region.binds md e&&e.on==m+i)|none=>false))&&
 ((List.range k).all fun i=>match ops[m+i]? with
  |some o=>o.after.all (fun e=> !Region.binds md e||decide (e.on<m+i))&&(match o.guard with
    |some (g,_)=>if g<m then (List.range k).all (fun i2=>match ops[m+i2]? with|some o2=>o2.dst != (ops[g]?).bind (·.dst)||o2.dst.isNone|none=>true) else decide (g<m+k)
    |none=>true)
  |none=>true)
def Zc5 (m k:Nat) (ops:Array Oper) (tmps:Array Value):Bool:=
 (List.range k).all fun i=>match ops[m+i]? with|some o=>(match o.guard with|some (g,b)=>decide (m≤g)||yielded ops tmps g==some b|none=>true)|none=>true
section
variable {P:Program} {ops:Array Oper} {Q:Exit→Act→World→Prop} {md:Region.Mode} {m k:Nat}
def Zab (P:Program) (md:Region.Mode) (ops:Array Oper) (Q:Exit→Act→World→Prop) (m f:Nat):Exit→Act→World→Prop
 | .normal,a,w=>wpAny P md ops Q f (Zae m ops.size) a w
 |e,a,w=>Q e a w
structure PartOk (md:Region.Mode) (m k:Nat) (ops:Array Oper):Prop where
 size:m+k≤ops.size
 pos:0<k
 back:∀j o,ops[j]? =some o→m+k≤j→∃e∈o.after,Region.binds md e=true∧(e.on=m+k-1∨m+k≤e.on)
 chain:∀i,i<k-1→∃j o,i<j∧j<k∧ops[m+j]? =some o∧∃e∈o.after,Region.binds md e=true∧e.on=m+i
 down:∀i o,i<k→ops[m+i]? =some o→∀e∈o.after,Region.binds md e=true→e.on<m+i
 grd:∀i o g b,i<k→ops[m+i]? =some o→o.guard=some (g,b)→(g<m∧∀i2 o2 d,i2<k→ops[m+i2]? =some o2→o2.dst=some d→(ops[g]?).bind (·.dst)≠some d)∨(m≤g∧g<m+k)
theorem ZdS (h:Zcm md m k ops=true):PartOk md m k ops:=by
 unfold Zcm at h;simp only[Bool.and_eq_true,decide_eq_true_eq,List.all_eq_true,List.mem_range,Bool.or_eq_true,List.any_eq_true]at h;obtain⟨⟨⟨⟨h1,h2⟩,h3⟩,h4⟩,h5⟩:=h;refine⟨h1,h2,fun j o ho hj=> ?_,fun i hi=> ?_,fun i o hi ho e he hb=> ?_,fun i o g b hi ho hg=> ?_⟩
 ·have hlt:=(Array.getElem?_eq_some_iff.1 ho).1;rcases h3 j hlt with h|h
  ·omega
  ·rw[ho]at h;simp only[Array.any_eq_true']at h;obtain⟨e,he,hb⟩:=h;simp only[Bool.and_eq_true,Bool.or_eq_true,beq_iff_eq,decide_eq_true_eq]at hb;exact⟨e,he,hb.1,hb.2⟩
 ·obtain⟨j,hj,hij,hm⟩:=h4 i hi
  cases ho:ops[m+j]? with
  |none=>rw[ho]at hm;cases hm
  |some o=>
   rw[ho]at hm;simp only[Array.any_eq_true']at hm;obtain⟨e,he,hb⟩:=hm;simp only[Bool.and_eq_true,beq_iff_eq]at hb;exact⟨j,o,hij,hj,ho,e,he,hb.1,hb.2⟩
 ·have h:=h5 i hi;rw[ho]at h;simp only[Bool.and_eq_true]at h;have h':=Array.all_eq_true_iff_forall_mem.1 h.1 e he;simp only[Bool.or_eq_true,Bool.not_eq_true',decide_eq_true_eq,hb]at h';rcases h' with h'|h'
  ·cases h'
  ·exact h'
 ·have h:=h5 i hi;rw[ho]at h;simp only[Bool.and_eq_true,hg]at h;have h:=h.2
  by_cases hgm:g<m
  ·rw[if_pos hgm]at h;refine .inl ⟨hgm,fun i2 o2 d hi2 ho2 hd=> ?_⟩;simp only[List.all_eq_true,List.mem_range]at h;have h:=h i2 hi2;rw[ho2]at h;simp only[hd,Bool.or_eq_true,bne_iff_ne,Option.isNone_some,Bool.false_eq_true,or_false]at h;exact fun e=>h e.symm
  ·rw[if_neg hgm]at h;exact .inr ⟨by omega,by simpa using h⟩
theorem Zek {tmps:Array Value} (h:Zc5 m k ops tmps=true) (i:Nat) (o:Oper) (g:Nat) (b:Bool) (hi:i<k) (ho:ops[m+i]? =some o) (hg:o.guard=some (g,b)) (hgm:g<m):yielded ops tmps g=some b:=by
 unfold Zc5 at h;simp only[List.all_eq_true,List.mem_range]at h;have h:=h i hi;rw[ho]at h;simp only[hg,Bool.or_eq_true,decide_eq_true_eq,beq_iff_eq]at h;rcases h with h|h
 ·omega
 ·exact h
theorem ZdD {l:Array Bool} {j:Nat} (h:j<l.size) (d d':Bool):l.getD j d=l.getD j d':=by simp[h]
theorem ZaZ {l:Array Bool} {i j:Nat} (hi:i<l.size) (d:Bool):(l.setIfInBounds i true).getD j d=if i=j then true else l.getD j d:=by
 by_cases h:i=j
 ·subst h;simp[hi]
 ·rw[if_neg h,getD_set_ne d h]
theorem ZaK (m:Nat) (e':Go.Edge):∀(l:List Go.Edge),e'∈Zf m l↔∃e∈l,m≤e.on∧e'={e with on:=e.on-m}
 |[]=>by simp[Zf]
 |e::l=>by
  unfold Zf
  split
  ·rename_i h
   simp only[List.mem_cons,ZaK m e' l]
   constructor
   ·rintro(rfl|⟨x,hx,h1,h2⟩)
    ·exact⟨e,.inl rfl,h,rfl⟩
    ·exact⟨x,.inr hx,h1,h2⟩
   ·rintro⟨x,rfl|hx,h1,h2⟩
    ·exact .inl h2
    ·exact .inr ⟨x,hx,h1,h2⟩
  ·rename_i h
   simp only[List.mem_cons,ZaK m e' l]
   constructor
   ·rintro⟨x,hx,h1,h2⟩;exact⟨x,.inr hx,h1,h2⟩
   ·rintro⟨x,rfl|hx,h1,h2⟩
    ·exact absurd h1 h
    ·exact⟨x,hx,h1,h2⟩
theorem Zci {e':Go.Edge} {o:Oper} (h:e'∈(ZO m o).after):∃e∈o.after,m≤e.on∧e'.on=e.on-m∧Region.binds md e'=Region.binds md e:=by
 unfold ZO at h;simp only[List.mem_toArray,ZaK,Array.mem_toList_iff]at h;obtain⟨e,h1,h2,rfl⟩:=h;exact⟨e,h1,h2,rfl,rfl⟩
structure Inv (m k:Nat) (ops:Array Oper) (md:Region.Mode) (L listed:Array Bool):Prop where
 s1:listed.size=ops.size
 s2:L.size=k
 same:∀i,i<k→∀d,L.getD i d=listed.getD (m+i) d
 lo:∀i,i<m→∀d,listed.getD i d=true
 hi:∀j,m+k≤j→j<ops.size→∀d,listed.getD j d=false
 cl:∀i o,i<k→ops[m+i]? =some o→listed.getD (m+i) false=true→∀e∈o.after,Region.binds md e=true→listed.getD e.on false=true
theorem Inv.mark_ {L listed:Array Bool} (I:Inv m k ops md L listed) (h:∀i,i<k→listed.getD (m+i) false=true):listed=Zae (m+k) ops.size:=by
 apply Array.ext
 ·rw[I.s1];unfold Zae;simp
 ·intro i h1 h2;have e1:listed[i]=listed.getD i false:=by simp[h1]
  have e2:(Zae (m+k) ops.size)[i]=(Zae (m+k) ops.size).getD i false:=by simp[h2]
  rw[e1,e2,Zal,if_pos (by rw[←I.s1];exact h1)]
  by_cases h3:i<m
  ·rw[I.lo i h3,decide_eq_true (by omega)]
  ·by_cases h4:i<m+k
   ·have:=h (i-m) (by omega);rw[show m+(i-m)=i by omega]at this;rw[this,decide_eq_true h4]
   ·rw[I.hi i (by omega) (by rw[←I.s1];exact h1),decide_eq_false h4]
theorem Inv.some_ready (H:PartOk md m k ops) {L listed:Array Bool} (I:Inv m k ops md L listed):∀i,i<k→listed.getD (m+i) false=false→Region.ready md (ZC m k ops) L≠[]:=by
 intro i
 induction i using Nat.strongRecOn with
 |_ i ih=>
  intro hi hf
  by_cases hall:∀i',i'<i→listed.getD (m+i') false=true
  ·have hlt:m+i<ops.size:=by have:=H.size;omega
   have ho:ops[m+i]? =some ops[m+i]:=Array.getElem?_eq_getElem hlt
   have hmem:i∈Region.ready md (ZC m k ops) L:=by
    rw[mem_ready];refine⟨by rw[I.same i hi,ZdD (by rw[I.s1];exact hlt) true false];exact hf,ZO m ops[m+i],by rw[Zan hi,ho];rfl,fun e' he' hb=> ?_⟩;obtain⟨e,he,hm,hon,hbb⟩:=Zci (md:=md) he';have hd:=H.down i _ hi ho e he (by rw[←hbb];exact hb);rw[hon,I.same _ (by omega)];exact hall _ (by omega)
   intro h0;rw[h0]at hmem
   cases hmem
  ·simp only[Classical.not_forall]at hall;obtain⟨i',hi',hn⟩:=hall;exact ih i' hi' (by omega) (by simpa using hn)
theorem Inv.all_listed (H:PartOk md m k ops) {L listed:Array Bool} (I:Inv m k ops md L listed) (h:listed.getD (m+k-1) false=true):∀x i,i+x=k-1→listed.getD (m+i) false=true:=by
 intro x
 induction x using Nat.strongRecOn with
 |_ x ih=>
  intro i hx;have hp:=H.pos
  by_cases h0:x=0
  ·rw[show m+i=m+k-1 by omega];exact h
  ·obtain⟨j,o,hij,hjk,ho,e,he,hb,hon⟩:=H.chain i (by omega);have:=I.cl j o hjk ho (ih (k-1-j) (by omega) j (by omega)) e he hb
   rwa [hon]at this
theorem Inv.ready_in (H:PartOk md m k ops) {L listed:Array Bool} (I:Inv m k ops md L listed) {i0:Nat} (hi0:i0<k) (hf:listed.getD (m+i0) false=false) {j:Nat} (hj:j∈Region.ready md ops listed):
  ∃i o,i<k∧j=m+i∧ops[m+i]? =some o∧i∈Region.ready md (ZC m k ops) L∧∀e∈o.after,Region.binds md e=true→listed.getD e.on false=true:=by
 obtain⟨hun,o,ho,hall⟩:=mem_ready.1 hj;have hlt:=(Array.getElem?_eq_some_iff.1 ho).1;have h1:¬j<m:=fun h=>by rw[I.lo j h]at hun;cases hun
 have h2:¬m+k≤j:=fun h=>by
  obtain⟨e,he,hb,hon⟩:=H.back j o ho h;have hl:=hall e he hb;rcases hon with hon|hon
  ·rw[hon]at hl;rw[I.all_listed H hl (k-1-i0) i0 (by omega)]at hf
   cases hf
  ·by_cases hs:e.on<ops.size
   ·rw[I.hi _ hon hs]at hl;cases hl
   ·simp[I.s1,hs]at hl
 obtain⟨i,rfl⟩:∃i,j=m+i:=⟨j-m,by omega⟩;have hi:i<k:=by omega
 refine⟨i,o,hi,rfl,ho,?_,hall⟩;rw[mem_ready];refine⟨by rw[I.same i hi];exact hun,ZO m o,by rw[Zan hi,ho];rfl,fun e' he' hb=> ?_⟩;obtain⟨e,he,hm,hon,hbb⟩:=Zci (md:=md) he';have hb2:Region.binds md e=true:=by rw[←hbb];exact hb
 have hd:=H.down i _ hi ho e he hb2;rw[hon,I.same _ (by omega),show m+(e.on-m)=e.on by omega];exact hall e he hb2
theorem Inv.none_ready {L listed:Array Bool} (I:Inv m k ops md L listed) (h:∀i,i<k→listed.getD (m+i) false=true) (hs:m+k≤ops.size):Region.ready md (ZC m k ops) L=[]:=by
 apply List.eq_nil_iff_forall_not_mem.2
 intro i hi;obtain⟨hun,o,ho,_⟩:=mem_ready.1 hi
 by_cases hk:i<k
 ·rw[I.same i hk,ZdD (by rw[I.s1];omega) true false,h i hk]at hun
  cases hun
 ·rw[ZbL (by omega)]at ho
  cases ho
theorem Inv.step (H:PartOk md m k ops) {L listed:Array Bool} (I:Inv m k ops md L listed) {i:Nat} {o:Oper} (hi:i<k) (ho:ops[m+i]? =some o) (hall:∀e∈o.after,Region.binds md e=true→listed.getD e.on false=true):
  Inv m k ops md (L.setIfInBounds i true) (listed.setIfInBounds (m+i) true):=by
 have hlt:m+i<listed.size:=by rw[I.s1];have:=H.size;omega
 refine⟨by simpa using I.s1,by simpa using I.s2,fun i' hi' d=> ?_,fun i' hi' d=> ?_,fun j hj hs d=> ?_,fun i' o' hi' ho' hl e he hb=> ?_⟩
 ·rw[ZaZ (by rw[I.s2];exact hi),ZaZ hlt,I.same i' hi']
  by_cases h:i=i'
  ·rw[if_pos h,if_pos (by omega)]
  ·rw[if_neg h,if_neg (by omega)]
 ·rw[ZaZ hlt,I.lo i' hi'];simp
 ·rw[ZaZ hlt,if_neg (by omega),I.hi j hj hs]
 ·by_cases h:i'=i
  ·subst h;rw[ho]at ho'
   cases ho'
   exact getD_set_true (hall e he hb)
  ·rw[ZaZ hlt,if_neg (by omega)]at hl;exact getD_set_true (I.cl i' o' hi' ho' hl e he hb)
theorem Zf0 (H:PartOk md m k ops) (f2:Nat):∀(fc:Nat) (L listed:Array Bool) (a:Act) (w:World),Inv m k ops md L listed→
  (∀i o g b,i<k→ops[m+i]? =some o→o.guard=some (g,b)→g<m→yielded ops a.tmps g=some b)→
  wpAny P md (ZC m k ops) (Zab P md ops Q (m+k) f2) fc L a w→wpAny P md ops Q (fc+f2) listed a w:=by
 intro fc
 induction fc with
 |zero=>
  intro L listed a w I hg h
  have hdone:∀i,i<k→listed.getD (m+i) false=true:=fun i hi=>by
   cases hf:listed.getD (m+i) false with
   |true=>rfl
   |false=>exact absurd h.1 (I.some_ready H i hi hf)
  rw[Nat.zero_add,I.mark_ hdone];exact h.2
 |succ fc ih=>
  intro L listed a w I hg h
  by_cases hdone:∀i,i<k→listed.getD (m+i) false=true
  ·have:=h.1 (I.none_ready hdone H.size);rw[I.mark_ hdone];exact Zev (fc+1) this
  ·simp only[Classical.not_forall]at hdone;obtain⟨i0,hi0,hn⟩:=hdone;have hf:listed.getD (m+i0) false=false:=by simpa using hn
   rw[Nat.add_right_comm];refine⟨fun hr=> ?_,fun j hj=> ?_⟩
   ·exfalso
    have hne:=I.some_ready H i0 hi0 hf
    cases hC:Region.ready md (ZC m k ops) L with
    |nil=>exact hne hC
    |cons x xs=>
     have hx:x∈Region.ready md (ZC m k ops) L:=by rw[hC];exact List.mem_cons_self ..
     obtain⟨hun,o',ho',hall'⟩:=mem_ready.1 hx
     have hxk:x<k:=by
      rcases Nat.lt_or_ge x k with h|h
      ·exact h
      ·rw[ZbL h]at ho';cases ho'
     rw[Zan hxk]at ho'
     cases ho:ops[m+x]? with
     |none=>rw[ho]at ho';cases ho'
     |some o=>
      rw[ho]at ho'
      cases ho'
      have:m+x∈Region.ready md ops listed:=by
       rw[mem_ready];refine⟨by rw[←I.same x hxk];exact hun,o,ho,fun e he hb=> ?_⟩;have hd:=H.down x o hxk ho e he hb
       by_cases hm:e.on<m
       ·exact I.lo _ hm _
       ·have hmem:({e with on:=e.on-m}:Go.Edge)∈(ZO m o).after:=by
         unfold ZO;simp only[List.mem_toArray,ZaK,Array.mem_toList_iff];exact⟨e,he,by omega,rfl⟩
        have:=hall' _ hmem hb;simp only at this;rw[I.same _ (by omega),show m+(e.on-m)=e.on by omega]at this;exact this
      rw[hr]at this
      cases this
   ·obtain⟨i,o,hi,rfl,ho,hiC,hall⟩:=I.ready_in H hi0 hf hj;have hstep:=h.2 i hiC
    have hwant:Region.wanted o (yielded ops a.tmps)=Region.wanted (ZO m o) (yielded (ZC m k ops) a.tmps):=by
     unfold Region.wanted ZO
     cases hgd:o.guard with
     |none=>rfl
     |some gb=>
      obtain⟨g,b⟩:=gb;rcases H.grd i o g b hi ho hgd with ⟨h1,_⟩|⟨h1,h2⟩
      ·simp only[Zi,if_pos h1];rw[hg i o g b hi ho hgd h1];simp
      ·simp only[Zi,if_neg (Nat.not_lt.2 h1)]
       have:yielded ops a.tmps g=yielded (ZC m k ops) a.tmps (g-m):=by
        unfold yielded;rw[Zan (by omega),show m+(g-m)=g by omega]
        cases ops[g]? <;>rfl
       rw[this]
    have h1:=Zet (C:=ZC m k ops) (Q:=Q) ho (by rw[Zan hi,ho];rfl) hwant (fun c a w h=>h) (fun h=>h) hstep
    have h2:=Zeu ho (G:=fun a=>∀i o g b,i<k→ops[m+i]? =some o→o.guard=some (g,b)→g<m→yielded ops a.tmps g=some b) hg (fun a v hG i2 o2 g b hi2 ho2 hgd hgm=>by
     rw[←hG i2 o2 g b hi2 ho2 hgd hgm];rcases H.grd i2 o2 g b hi2 ho2 hgd with ⟨_,hd⟩|⟨h1,_⟩
     ·cases hdst:o.dst with
      |none=>rfl
      |some d=>
       have hne:=hd i o d hi ho hdst;unfold yielded
       cases hb:(ops[g]?).bind (·.dst)with
       |none=>rfl
       |some t=>
        have:d≠t:=fun e=>hne (by rw[hb,e])
        simp[Act.put,Array.getElem?_setIfInBounds_ne this]
     ·omega) (fun a d hG=>hG) h1
    exact wpOp_mono (fun a' w' h=>ih (L.setIfInBounds i true) (listed.setIfInBounds (m+i) true) a' w' (I.step H hi ho hall) h.1 h.2) h2
theorem Zg4 (k:Nat) (h1:Zcm md m k ops=true) {a:Act} {w:World} {f:Nat} (h2:Zc5 m k ops a.tmps=true) (f2:Nat) (hf:k+f2=f)
  (h:wpAny P md (ZC m k ops) (Zab P md ops Q (m+k) f2) k (Array.replicate k false) a w):wpAny P md ops Q f (Zae m ops.size) a w:=by
 subst hf;have H:=ZdS h1;refine Zf0 H f2 k _ _ a w ⟨?_,by simp,fun i hi d=> ?_,fun i hi d=> ?_,fun j hj hs d=> ?_,fun i o hi ho hl=> ?_⟩ (fun i o g b hi ho hg hgm=>Zek h2 i o g b hi ho hg hgm) h
 ·unfold Zae;simp
 ·have:=H.size;rw[Zal,if_pos (by omega),decide_eq_false (by omega)];simp[hi]
 ·have:=H.size;rw[Zal,if_pos (by omega),decide_eq_true hi]
 ·rw[Zal,if_pos hs,decide_eq_false (by omega)]
 ·have:=H.size;rw[Zal,if_pos (by omega),decide_eq_false (by omega)]at hl
  cases hl
theorem Zx (k:Nat) (h1:Zcm md m k ops=true) {a:Act} {w:World} {f:Nat} (h2:Zc5 m k ops a.tmps=true) (f2:Nat) (hf:k+f2=f) (hQ:∀c a d v w,Q (.panic c) (Act.put a d v) w→Q (.panic c) a w)
  (h:∀QQ:Exit→Act→World→Prop,(∀c a d v w,QQ (.panic c) (Act.put a d v) w→QQ (.panic c) a w)→Shut (∀a w,wpAny P md ops Q f2 (Zae (m+k) ops.size) a w→QQ .normal a w)→wpAny P md (ZC m k ops) QQ k (Array.replicate k false) a w):
  wpAny P md ops Q f (Zae m ops.size) a w:=
 Zg4 k h1 h2 f2 hf (h _ (fun c a d v w h=>hQ c a d v w h) (fun _ _ h=>h))
theorem Zck {id:Nat} {a:Act} {w:World} (hm:P.follows .mixedOrders=true) (h:wpAny P .any ops Q ops.size (Zae 0 ops.size) a w.drew):(Code.region id ops true).wp P Q a w:=
 wp_region_any hm (by rw[←ZeO];exact h)
theorem Zdq {a:Act} {w:World} {f:Nat} (h:Q .normal a w):wpAny P md ops Q f (Zae ops.size ops.size) a w:=by
 refine wpAny_done ?_ h f
 apply List.eq_nil_iff_forall_not_mem.2
 intro i hi;obtain⟨hun,o,ho,_⟩:=mem_ready.1 hi;have hlt:=(Array.getElem?_eq_some_iff.1 ho).1;rw[Zal,if_pos hlt,decide_eq_true hlt]at hun
 cases hun
end
/-! a part with several orders:what stands Zab it is walked once -/
def Zbr (a:Act):List Nat→(Nat→Value)→Act
 |[],_=>a
 |s::ss,vs=>Zbr (a.put (some s) (vs s)) ss vs
def Zbs (a:Act) (v:Value):List Nat→Act
 |[]=>a
 |s::ss=>Zbs (a.put (some s) v) v ss
theorem Za5 {P:Program} {md:Region.Mode} {ops:Array Oper} {QQ:Exit→Act→World→Prop} {S:World→Prop} {f:Nat} {listed:Array Bool} {a:Act} {w:World} (ss ks:List Nat) (v:Value)
  (hrest:∀vs W,S W→QQ .normal (Zbs (Zbr a ss vs) v ks) W) (hpart:Shut (∀vs W,S W→QQ .normal (Zbs (Zbr a ss vs) v ks) W)→wpAnyH P md ops QQ S f listed a w):wpAnyH P md ops QQ S f listed a w:=hpart hrest
theorem Z7 {QQ:Exit→Act→World→Prop} {S:World→Prop} {a a':Act} {ss ks:List Nat} {v:Value} (h:∀vs W,S W→QQ .normal (Zbs (Zbr a ss vs) v ks) W) {W:World} (hS:S W)
  (e:a'=Zbs (Zbr a ss (fun i=>a'.tmps[i]?.getD (.bool false))) v ks):QQ .normal a' W:=by
 rw[e];exact h _ _ hS
end
end Go.Proofs.Ytblplapkdmhikaa
