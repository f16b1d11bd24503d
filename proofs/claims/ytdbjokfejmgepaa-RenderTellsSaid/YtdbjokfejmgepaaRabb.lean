/- slices.Compact at edges. -/
import Derived.Lib.SliceRun
import Derived.IntWalk
import Derived.Shelf.GgSortFunc.InsertionK
import Derived.Shelf.SlSortCmp.Insertion
import Derived.Test.YtdbjokfejmgepaaProg
import Derived.Test.YtdbjokfejmgepaaRaax
namespace Go.Proofs.Ytdbjokfejmgepaa
set_option linter.unusedVariables false
set_option linter.unusedSimpArgs false
section
open Go.RowKit
def ddF (l:List Edge):Nat→List Edge
 |0=>[]
 |k+1=>if k=0∨l[k-1]?≠l[k]? then ddF l k++l[k]?.toList else ddF l k
theorem ZlM {l:List Edge} {k:Nat} (hk:k<l.length) (h:k=0∨l[k-1]?≠l[k]?):ddF l (k+1)=ddF l k++[l[k]]:=by
 conv=>lhs;unfold ddF
 rw[if_pos h,Qg hk];rfl
theorem Ziu {l:List Edge} {k:Nat} (h0:0<k) (h:l[k-1]? =l[k]?):ddF l (k+1)=ddF l k:=by
 conv=>lhs;unfold ddF
 rw[if_neg (by rintro(h1|h1);omega;exact h1 h)]
theorem Zlm (cs:List Value) (a:Nat) (v0 v1 v2 v3:Value) (h:a+4≤cs.length):(((cs.set a v0).set (a+1) v1).set (a+2) v2).set (a+3) v3=cs.take a++([v0,v1,v2,v3]++cs.drop (a+4)):=by
 apply List.ext_getElem?
 intro t;simp only[List.getElem?_set,List.length_set]
 by_cases h0:t<a
 ·rw[List.getElem?_append_left (by rw[List.length_take];omega),List.getElem?_take,if_pos h0,if_neg (by omega),if_neg (by omega),if_neg (by omega),if_neg (by omega)]
 ·rw[List.getElem?_append_right (by rw[List.length_take];omega),List.length_take,Nat.min_eq_left (by omega)]
  by_cases h4:t<a+4
  ·rcases(show t=a∨t=a+1∨t=a+2∨t=a+3 by omega)with rfl|rfl|rfl|rfl
   ·rw[if_neg (by omega),if_neg (by omega),if_neg (by omega),if_pos rfl,if_pos (by omega),Nat.sub_self];rfl
   ·rw[if_neg (by omega),if_neg (by omega),if_pos rfl,if_pos (by omega),show a+1-a=1 by omega];rfl
   ·rw[if_neg (by omega),if_pos rfl,if_pos (by omega),show a+2-a=2 by omega];rfl
   ·rw[if_pos rfl,if_pos (by omega),show a+3-a=3 by omega];rfl
  ·rw[if_neg (by omega),if_neg (by omega),if_neg (by omega),if_neg (by omega),List.getElem?_append_right (by simp;omega),List.getElem?_drop];simp only[List.length_cons,List.length_nil];rw[show a+4+(t-a-(0+1+1+1+1))=t by omega]
theorem Zme {cs0:List Value} {l:List Edge} (hcs:cs0.take (l.length*4)=(l.map Edge.cells).flatten) {j c:Nat} {v:Value} (hj:j<l.length) (hc:(Edge.cells l[j])[c]? =some v):cs0[j*4+c]? =some v:=by
 have hc4:c<4:=by
  have:=(List.getElem?_eq_some_iff.1 hc).1
  simpa[Edge.cells]using this
 have h1:(cs0.take (l.length*4))[j*4+c]? =cs0[j*4+c]? :=by rw[List.getElem?_take,if_pos (by omega)]
 rw[←h1,hcs];exact Ze0 Za5 (by rw[List.getElem?_map,Qg hj];rfl) hc
structure CInv (l:List Edge) (cs0:List Value) (m kk:Nat) (cs:List Value):Prop where
 len:cs.length=cs0.length
 cnt:kk=(ddF l m).length
 lt:kk<m
 lo:cs.take (kk*4)=((ddF l m).map Edge.cells).flatten
 high:cs.drop ((m-1)*4)=cs0.drop ((m-1)*4)
namespace CInv
variable {l:List Edge} {cs0 cs:List Value} {m kk:Nat}
theorem at_ (I:CInv l cs0 m kk cs) (hcs:cs0.take (l.length*4)=(l.map Edge.cells).flatten) {j c:Nat} {v:Value} (hm:m-1≤j) (hj:j<l.length) (hc:(Edge.cells l[j])[c]? =some v):cs[j*4+c]? =some v:=by
 have h1:=Zme hcs hj hc;have h2:=congrArg (fun x=>x[j*4+c-(m-1)*4]?) I.high;simp only[List.getElem?_drop]at h2;rw[show(m-1)*4+(j*4+c-(m-1)*4)=j*4+c by omega]at h2;rw[h2];exact h1
theorem skip (I:CInv l cs0 m kk cs) (h0:0<m) (h:l[m-1]? =l[m]?):CInv l cs0 (m+1) kk cs:=by
 refine⟨I.len,by rw[Ziu h0 h];exact I.cnt,by have:=I.lt;omega,by rw[Ziu h0 h];exact I.lo,?_⟩;have h2:=congrArg (List.drop 4) I.high;rw[List.drop_drop,List.drop_drop]at h2;rw[show(m+1-1)*4=(m-1)*4+4 by omega];exact h2
theorem keep (I:CInv l cs0 m kk cs) (hm:m<l.length) (h:l[m-1]?≠l[m]?) (hlen:l.length*4≤cs0.length):
  CInv l cs0 (m+1) (kk+1) ((((cs.set (kk*4) (.int .i64 l[m].f)).set (kk*4+1) (.int .i64 l[m].t)).set (kk*4+2) (.int .i64 l[m].k)).set (kk*4+3) (.int .i64 l[m].key)):=by
 have hlt:=I.lt;have hl:=I.len;rw[Zlm _ _ _ _ _ _ (by omega)];have hd:=ZlM hm (.inr h);refine⟨?_,?_,by omega,?_,?_⟩
 ·simp only[List.length_append,List.length_take,List.length_cons,List.length_nil,List.length_drop];omega
 ·rw[hd,List.length_append,←I.cnt];rfl
 ·rw[hd,List.map_append,List.flatten_append,←I.lo,←List.append_assoc];rw[List.take_append_of_le_length (by simp only[List.length_append,List.length_take,List.length_cons,List.length_nil];omega)];rw[List.take_of_length_le (by simp only[List.length_append,List.length_take,List.length_cons,List.length_nil];omega)];rfl
 ·rw[List.drop_append,List.drop_append,List.drop_of_length_le (by rw[List.length_take];omega),List.drop_of_length_le (by simp only[List.length_take,List.length_cons,List.length_nil];omega),List.drop_drop];simp only[List.nil_append,List.length_take,List.length_cons,List.length_nil];have h2:=congrArg (List.drop 4) I.high;rw[List.drop_drop,List.drop_drop]at h2;rw[show(m+1-1)*4=(m-1)*4+4 by omega,←h2]
  congr 1
  omega
end CInv
end
end Go.Proofs.Ytdbjokfejmgepaa
