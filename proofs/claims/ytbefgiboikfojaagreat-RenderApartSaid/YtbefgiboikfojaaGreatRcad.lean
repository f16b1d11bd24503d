/- A region that draws its order, taken part by part: where all that stands Za7 a part waits for the part's last operation. -/
import Derived.Test.YtbefgiboikfojaaGreatRcac
namespace Go.Proofs.YtbefgiboikfojaaGreat
open Go.RowKit
set_option linter.unusedVariables false
set_option linter.unusedSimpArgs false
def Zuq(m n:Nat):Array Bool:=Array.ofFn (n:=n) fun i=>decide (i.1<m)
section
variable {P:Gw} {ops C:Array Oper} {Q Q':Exit->Act->Gy->Prop} {md:Region.Mode}
end
section
variable {P:Gw} {ops:Array Oper} {Q:Exit->Act->Gy->Prop} {md:Region.Mode} {m k:Nat}
def Za7(P:Gw)(md:Region.Mode)(ops:Array Oper)(Q:Exit->Act->Gy->Prop)(m f:Nat):Exit->Act->Gy->Prop
 | .normal,a,w=>wpAny P md ops Q f (Zuq m ops.size) a w
 |e,a,w=>Q e a w
structure PartOk (md:Region.Mode) (m k:Nat) (ops:Array Oper):Prop where
 size:m+k<=ops.size
 pos:0<k
 back:∀j o,ops[j]? =some o->m+k<=j->∃e∈o.after,Region.binds md e=true∧(e.on=m+k-1∨m+k<=e.on)
 chain:∀i,i<k-1->∃j o,i<j∧j<k∧ops[m+j]? =some o∧∃e∈o.after,Region.binds md e=true∧e.on=m+i
 down:∀i o,i<k->ops[m+i]? =some o->∀e∈o.after,Region.binds md e=true->e.on<m+i
 grd:∀i o g b,i<k->ops[m+i]? =some o->o.guard=some (g,b)->(g<m∧∀i2 o2 d,i2<k->ops[m+i2]? =some o2->o2.dst=some d->(ops[g]?).bind (·.dst)≠some d)∨(m<=g∧g<m+k)
theorem ZeK{l:Array Bool}{i j:Nat}(hi:i<l.size)(d:Bool):(l.setIfInBounds i true).getD j d=if i=j then true else l.getD j d:=by
 by_cases h:i=j
 ·subst h;simp[hi]
 ·rw[if_neg h,getD_set_ne d h]
structure Inv (m k:Nat) (ops:Array Oper) (md:Region.Mode) (L listed:Array Bool):Prop where
 s1:listed.size=ops.size
 s2:L.size=k
 same:∀i,i<k->∀d,L.getD i d=listed.getD (m+i) d
 lo:∀i,i<m->∀d,listed.getD i d=true
 hi:∀j,m+k<=j->j<ops.size->∀d,listed.getD j d=false
 cl:∀i o,i<k->ops[m+i]? =some o->listed.getD (m+i) false=true->∀e∈o.after,Region.binds md e=true->listed.getD e.on false=true
theorem Inv.step(H:PartOk md m k ops){L listed:Array Bool}(I:Inv m k ops md L listed){i:Nat}{o:Oper}(hi:i<k)(ho:ops[m+i]? =some o)(aH:∀e∈o.after,Region.binds md e=true->listed.getD e.on false=true):
  Inv m k ops md (L.setIfInBounds i true) (listed.setIfInBounds (m+i) true):=by
 have hlt:m+i<listed.size:=by rw[I.s1];have:=H.size;omega
 refine⟨by simpa using I.s1,by simpa using I.s2,fun i' hi' d=>?_,fun i' hi' d=>?_,fun j hj hs d=>?_,fun i' o' hi' ho' hl e he hb=>?_⟩
 ·rw[ZeK (by rw[I.s2];exact hi),ZeK hlt,I.same i' hi']
  by_cases h:i=i'
  ·rw[if_pos h,if_pos (by omega)]
  ·rw[if_neg h,if_neg (by omega)]
 ·rw[ZeK hlt,I.lo i' hi'];simp
 ·rw[ZeK hlt,if_neg (by omega),I.hi j hj hs]
 ·by_cases h:i'=i
  ·subst h;rw[ho]at ho'
   cases ho'
   exact getD_set_true (aH e he hb)
  ·rw[ZeK hlt,if_neg (by omega)]at hl;exact getD_set_true (I.cl i' o' hi' ho' hl e he hb)
end
/-! a part with several orders:what stands Za7 it is walked once -/
