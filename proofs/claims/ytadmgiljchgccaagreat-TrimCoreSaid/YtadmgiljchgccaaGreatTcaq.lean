/- Edges sorted, each once: slices.Clone, SortFunc, Compact at edges; pack.Sort. -/
import Derived.Test.YtadmgiljchgccaaGreatLaySort
import Derived.Test.YtadmgiljchgccaaGreatTcam
namespace Go.Proofs.YtadmgiljchgccaaGreat
open Go.RowKit
set_option linter.unusedVariables false
set_option linter.unusedSimpArgs false
set_option maxRecDepth 100000
set_option maxHeartbeats 1000000
instance:Inhabited Edge:=⟨⟨0,0,0,0⟩⟩
theorem Zji(d:Array Edge):(Sort.flatK Edge.cells 4 d).toList=(d.toList.map Edge.cells).flatten:=by
 apply List.ext_getElem?
 intro t;have au:((d.toList.map Edge.cells).flatten).length=d.size*4:=by rw[Zdl Zbn];simp
 by_cases ht:t<d.size*4
 ·have hq:t/4<d.size:=by omega
  have h1:(d.toList.map Edge.cells)[t/4]? =some (Edge.cells d[t/4]!):=by
   rw[List.getElem?_map,Array.getElem?_toList,Array.getElem?_eq_getElem hq,getElem!_pos d _ hq];rfl
  have h3:t%4<(Edge.cells d[t/4]!).length:=by simp[Edge.cells];omega
  have h2:(Edge.cells d[t/4]!)[t%4]? =some ((Edge.cells d[t/4]!)[t%4]!):=by
   rw[getElem!_pos (Edge.cells d[t/4]!) (t%4) h3,Qg h3]
  have:=Zd0 Zbn h1 h2;rw[show t/4*4+t%4=t by omega]at this;rw[this,Array.getElem?_toList];have h4:=Sort.get_flatK Edge.cells 4 d t ht;have h5:t<(Sort.flatK Edge.cells 4 d).size:=by simpa using ht
  rw[Array.getElem?_eq_getElem h5,<-h4,getElem!_pos (Sort.flatK Edge.cells 4 d) t h5]
 ·rw[List.getElem?_eq_none (by simp;omega),List.getElem?_eq_none (by omega)]
theorem Zsu(F cs:Io)(h:F.size<=cs.size):Sort.putCells id 0 F cs=(F.toList++cs.toList.drop F.size).toArray:=by
 apply Array.ext'
 apply List.ext_getElem?
 intro t;unfold Sort.putCells;simp only[Nat.zero_add,Nat.zero_le,true_and,Nat.sub_zero,id_eq,Array.getElem?_toList,Array.getElem?_mapIdx]
 by_cases h1:t<F.size
 ·rw[List.getElem?_append_left (by simpa using h1),Array.getElem?_toList,Array.getElem?_eq_getElem (show t<cs.size by omega),Array.getElem?_eq_getElem h1];simp[h1]
 ·rw[List.getElem?_append_right (by simpa using h1),List.getElem?_drop];simp only[Array.length_toList,Array.getElem?_toList];rw[show F.size+(t-F.size)=t by omega]
  cases cs[t]? <;>simp[h1]
theorem ZoA{w:I0}{g n:Nat}{t:Iy}{cs:Ip}{d:Array Edge}{os:Array Obj}(hb:Blk w g t cs)(hl:d.size*4<=cs.length):
  Blk (sortWorldK Edge.cells 4 w g 0 n d os) g t ((d.toList.map Edge.cells).flatten++cs.drop (d.size*4)):=by
 have hlt:=hb.lt;unfold Blk at hb ⊢
 have e1:(sortWorldK Edge.cells 4 w g 0 n d os).heap[g]? =some (.cells (Sort.putCells id 0 (Sort.flatK Edge.cells 4 d) cs.toArray) t (0,0)):=by
  unfold sortWorldK Sort.grow Sort.putRowK Sort.putRow Sort.mapBlock;simp only;rw[Array.getElem?_append_left (by simpa using hlt),Array.getElem?_modify];simp only[if_true];rw[show(Sort.ahead w n).heap=w.heap from rfl,hb];rfl
 rw[e1,Zsu _ _ (by simpa using hl),Zji];simp
theorem Zoz(w:I0)(g n:Nat)(d:Array Edge)(os:Array Obj):Upd (One g) w (sortWorldK Edge.cells 4 w g 0 n d os):=by
 refine⟨rfl,rfl,rfl,?_,fun k hk hn=>?_⟩
 ·unfold sortWorldK Sort.grow Sort.putRowK Sort.putRow Sort.mapBlock;simp only[Array.size_append,Array.size_modify]
  show w.heap.size<=w.heap.size+os.size
  omega
 ·unfold sortWorldK Sort.grow Sort.putRowK Sort.putRow Sort.mapBlock;simp only;rw[Array.getElem?_append_left (by simpa using hk),Array.getElem?_modify,if_neg (fun e=>hn e.symm)];rfl
theorem Zbm(x y:Edge):ltOf Zbj x y=ltE x y:=by
 unfold ltOf;exact Zvu x y
theorem Zx0:Sort.SWO (ltOf Zbj) where
 irrefl x:=by rw[Zbm];exact Zho x
 trans x y z h1 h2:=by rw[Zbm]at*;exact ZkF h1 h2
 ntrans x y z h1 h2:=by
  rw[Zbm]at*;rw[<-Gz,ZbT]at*;omega
theorem Zwi{w:I0}{g:Nat}{t:Iy}{cs:Ip}{l:List Edge}(hb:Blk w g t cs)(cf:cs.take (l.length*4)=(l.map Edge.cells).flatten):Sort.HoldsK Edge.cells 4 w g 0 l.toArray:=by
 intro j hj;simp only[Sort.size_flatK,List.size_toArray]at hj;rw[Nat.zero_add];refine⟨?_,hb.free j⟩;rw[hb.cell j];have h1:(cs.take (l.length*4))[j]? =cs[j]? :=by rw[List.getElem?_take,if_pos hj]
 have h2:=Zji l.toArray;rw[<-h1,cf];have h3:j<(Sort.flatK Edge.cells 4 l.toArray).size:=by simpa using hj
 rw[show(l.map Edge.cells).flatten=(Sort.flatK Edge.cells 4 l.toArray).toList from h2.symm,Array.getElem?_toList,Array.getElem?_eq_getElem h3,getElem!_pos (Sort.flatK Edge.cells 4 l.toArray) j h3];rfl
def ZbK(l:List Edge):List Edge:=l.mergeSort fun x y=> !(ltOf Zbj) y x
theorem Zp3(l:List Edge):(ZbK l).length=l.length:=List.length_mergeSort ..
theorem Zxq(w:I0)(g cap:Nat)(l:List Edge)(cs:Ip)(hb:Blk w g 58 cs)(cf:cs.take (l.length*4)=(l.map Edge.cells).flatten)(au:l.length*4<=cs.length)(hl:l.length<=1000000):
  Calls Tryz.prog 189 #[.slice (some ⟨g,0,none⟩) l.length cap,.func (.func 190) #[] #[]] w fun e w'=>e= .returned (.tuple #[])∧Blk w' g 58 (((ZbK l).map Edge.cells).flatten++cs.drop (l.length*4))∧Upd (One g) w w':=by
 have eg:∀args w,(callFunc 190 args).run Tryz.prog w= .ok (.enter 190 args) w:=enters_of Tryz.func190 (by kernel_rfl) rfl;have jN:CmpLays Tryz.prog 190 #[] Edge.cells 4 Zbj g 0 l.toArray.size w:=fun m os dk _ x y=>Zqu _ x y
 have xW:=AnyQ.slices_SortFunc_total sortE_lay 4 Tryz.isAgg58 Tryz.sizeOf58 Edge.cells (fun _=>rfl) (fun x v hv=>ZgY (l:=[x]) v (by simpa using hv)) Zbj Zx0 190 #[] g 0 cap l.toArray w eg jN (Zwi hb cf) hb.lt (by simp;omega) (fun x y h1 h2=>ZjP (by rw[<-Zbm];exact h1) (by rw[<-Zbm];exact h2));refine Calls.mono xW ?_;rintro e w' ⟨rfl,n,os,rfl⟩;refine⟨rfl,?_,Zoz _ _ _ _ _⟩;have h:=ZoA (n:=n) (d:=(l.mergeSort fun x y=> !(ltOf Zbj) y x).toArray) (os:=os) hb (by simpa using au);simp only[List.size_toArray,List.length_mergeSort]at h;exact h
theorem Zwl(F:Iw)(w:I0)(A:OA)(c:Nat)(l:List Edge)(h:Walk F w A l)(hl:l.length<=1000000):
  Calls Tryz.prog 166 #[.slice A l.length c] w (Zyw w (l.map Edge.cells).flatten l.length):=by
 have qT:∀(w:I0) (a:OA) (n c:Nat),(binOp .eql 47 (.slice a n c) (.slice none 0 0)).run Tryz.prog w= .ok (.bool a.isNone) w:=fun w a n c=>Lib.run_eql_slice_nil w _ _ a n c 0 0 Tryz.underlying47
 cases A with
 |none=>
  have h0:l=[]:=by
   cases l with
   |nil=>rfl
   |cons a l=>obtain⟨_,e,_⟩:=h (by simp);cases e
  subst h0;go_enter Tryz.func166,Tryz.ntmps166;go_wp2;go_ret;exact⟨none,0,rfl,Ik _ _ _ _,Il _ _⟩
 |some ad=>
  have hs:=Qh (h.upd ((Il No w).alloc (.cells #[] 58)) Qo);go_enter Tryz.func166,Tryz.ntmps166;go_wp2_with (at_builtin;refine Ziq rfl rfl ZbY (base:=w.heap.size) (v:= .slice (some ⟨w.heap.size,0,none⟩) 0 0) (n:=0) (m:=l.length) (xs:=[]) rfl rfl (ZsJ rfl (Nat.le_refl _)) (Walk.src hs.out rfl) ZgY (by omega) (by omega) (by simp) ?_);intro v4 w4 aF hu4 dd;obtain⟨A4,c4,rfl⟩:=Zaz aF;have uw4:Upd No w w4:=((Il No w).alloc _).then_ hu4 (fun j e=> .inr (ZiN e));go_wp2;go_ret;exact⟨A4,c4,rfl,aF,uw4⟩
/- slices.Compact at edges. -/
def ddF(l:List Edge):Nat->List Edge
 |0=>[]
 |k+1=>if k=0∨l[k-1]?≠l[k]? then ddF l k++l[k]?.toList else ddF l k
theorem Zj1{l:List Edge}{k:Nat}(hk:k<l.length)(h:k=0∨l[k-1]?≠l[k]?):ddF l (k+1)=ddF l k++[l[k]]:=by
 conv=>lhs;unfold ddF
 rw[if_pos h,Qg hk];rfl
theorem Zj0{l:List Edge}{k:Nat}(h0:0<k)(h:l[k-1]? =l[k]?):ddF l (k+1)=ddF l k:=by
 conv=>lhs;unfold ddF
 rw[if_neg (by rintro(h1|h1);omega;exact h1 h)]
theorem Zoj(l:List Edge):∀k,(ddF l k).length<=k
 |0=>Nat.le_refl _
 |k+1=>by
  have:=Zoj l k;unfold ddF
  split
  ·cases l[k]? <;>simp<;>omega
  ·omega
theorem ZuM(cs:Ip)(a:Nat)(v0 v1 v2 v3:Iz)(h:a+4<=cs.length):(((cs.set a v0).set (a+1) v1).set (a+2) v2).set (a+3) v3=cs.take a++([v0,v1,v2,v3]++cs.drop (a+4)):=by
 apply List.ext_getElem?
 intro t;simp only[List.getElem?_set,List.length_set]
 by_cases h0:t<a
 ·rw[List.getElem?_append_left (by rw[Hm];omega),List.getElem?_take,if_pos h0,if_neg (by omega),if_neg (by omega),if_neg (by omega),if_neg (by omega)]
 ·rw[List.getElem?_append_right (by rw[Hm];omega),Hm,Nat.min_eq_left (by omega)]
  by_cases h4:t<a+4
  ·rcases(show t=a∨t=a+1∨t=a+2∨t=a+3 by omega)with rfl|rfl|rfl|rfl
   ·rw[if_neg (by omega),if_neg (by omega),if_neg (by omega),if_pos rfl,if_pos (by omega),Nat.sub_self];rfl
   ·rw[if_neg (by omega),if_neg (by omega),if_pos rfl,if_pos (by omega),show a+1-a=1 by omega];rfl
   ·rw[if_neg (by omega),if_pos rfl,if_pos (by omega),show a+2-a=2 by omega];rfl
   ·rw[if_pos rfl,if_pos (by omega),show a+3-a=3 by omega];rfl
  ·rw[if_neg (by omega),if_neg (by omega),if_neg (by omega),if_neg (by omega),List.getElem?_append_right (by simp;omega),List.getElem?_drop];simp only[G1,Hv];rw[show a+4+(t-a-(0+1+1+1+1))=t by omega]
theorem Zc5{cs0:Ip}{l:List Edge}(cf:cs0.take (l.length*4)=(l.map Edge.cells).flatten){j c:Nat}{v:Iz}(hj:j<l.length)(hc:(Edge.cells l[j])[c]? =some v):cs0[j*4+c]? =some v:=by
 have kS:c<4:=by
  have:=(List.getElem?_eq_some_iff.1 hc).1
  simpa[Edge.cells]using this
 have h1:(cs0.take (l.length*4))[j*4+c]? =cs0[j*4+c]? :=by rw[List.getElem?_take,if_pos (by omega)]
 rw[<-h1,cf];exact Zd0 Zbn (by rw[List.getElem?_map,Qg hj];rfl) hc
theorem ZkW:∀(l:List Edge) (k:Nat),((l.map Edge.cells).flatten).take (k*4)=((l.take k).map Edge.cells).flatten
 |[],k=>by simp
 |a::l,0=>by simp
 |a::l,k+1=>by
  rw[List.take_succ_cons,Id,List.flatten_cons,Id,List.flatten_cons,<-ZkW l k,List.take_append];rw[List.take_of_length_le (by simp[Edge.cells];omega)]
  congr 1
  simp[Edge.cells]
  congr 1
  omega
structure CInv (l:List Edge) (cs0:List Value) (m kk:Nat) (cs:List Value):Prop where
 len:cs.length=cs0.length
 cnt:kk=(ddF l m).length
 lt:kk<m
 lo:cs.take (kk*4)=((ddF l m).map Edge.cells).flatten
 high:cs.drop ((m-1)*4)=cs0.drop ((m-1)*4)
namespace CInv
variable {l:List Edge} {cs0 cs:Ip} {m kk:Nat}
theorem at_(I:CInv l cs0 m kk cs)(cf:cs0.take (l.length*4)=(l.map Edge.cells).flatten){j c:Nat}{v:Iz}(hm:m-1<=j)(hj:j<l.length)(hc:(Edge.cells l[j])[c]? =some v):cs[j*4+c]? =some v:=by
 have h1:=Zc5 cf hj hc;have h2:=congrArg (fun x=>x[j*4+c-(m-1)*4]?) I.high;simp only[List.getElem?_drop]at h2;rw[show(m-1)*4+(j*4+c-(m-1)*4)=j*4+c by omega]at h2;rw[h2];exact h1
theorem skip(I:CInv l cs0 m kk cs)(h0:0<m)(h:l[m-1]? =l[m]?):CInv l cs0 (m+1) kk cs:=by
 refine⟨I.len,by rw[Zj0 h0 h];exact I.cnt,by have:=I.lt;omega,by rw[Zj0 h0 h];exact I.lo,?_⟩;have h2:=congrArg (List.drop 4) I.high;rw[List.drop_drop,List.drop_drop]at h2;rw[show(m+1-1)*4=(m-1)*4+4 by omega];exact h2
theorem keep(I:CInv l cs0 m kk cs)(hm:m<l.length)(h:l[m-1]?≠l[m]?)(au:l.length*4<=cs0.length):
  CInv l cs0 (m+1) (kk+1) ((((cs.set (kk*4) (Qi l[m].f)).set (kk*4+1) (Qi l[m].t)).set (kk*4+2) (Qi l[m].k)).set (kk*4+3) (Qi l[m].key)):=by
 have hlt:=I.lt;have hl:=I.len;rw[ZuM _ _ _ _ _ _ (by omega)];have hd:=Zj1 hm (.inr h);refine⟨?_,?_,by omega,?_,?_⟩
 ·simp only[Gt,Hm,G1,Hv,G5];omega
 ·rw[hd,Gt,<-I.cnt];rfl
 ·rw[hd,Hu,List.flatten_append,<-I.lo,<-Gx];rw[Gc (by simp only[Gt,Hm,G1,Hv];omega)];rw[List.take_of_length_le (by simp only[Gt,Hm,G1,Hv];omega)];rfl
 ·rw[List.drop_append,List.drop_append,List.drop_of_length_le (by rw[Hm];omega),List.drop_of_length_le (by simp only[Hm,G1,Hv];omega),List.drop_drop];simp only[H8,Hm,G1,Hv];have h2:=congrArg (List.drop 4) I.high;rw[List.drop_drop,List.drop_drop]at h2;rw[show(m+1-1)*4=(m-1)*4+4 by omega,<-h2]
  congr 1
  omega
end CInv
theorem ZiD(w:I0)(g off n c:Nat)(cs:Ip)(hb:Blk w g 58 cs)(hn:0<n)(aR:off+n*4<=cs.length):
  ∃w',(∀ty,(Builtin.clear_ #[47] ty #[.slice (some ⟨g,off,none⟩) n c]).run Tryz.prog w= .ok (.tuple #[]) w')∧(∃zs,Blk w' g 58 (cs.take off++zs))∧Upd (One g) w w':=by
 have hz:(Builtin.zeroCells #[Value.int .i64 0,Qi 0,Qi 0,Qi 0] n).toList.length=n*4:=by
  rw[Array.length_toList,size_zeroCells];rfl
 have h1:∀v∈(Builtin.zeroCells #[Value.int .i64 0,Qi 0,Qi 0,Qi 0] n).toList,v.oneCell'=true:=by
  intro v hv;unfold Builtin.zeroCells at hv;simp only[Array.toList_map,Ih]at hv;obtain⟨i,_,rfl⟩:=hv;have:i%4=0∨i%4=1∨i%4=2∨i%4=3:=by omega
  rcases this with h|h|h|h<;>simp[h,Value.oneCell']
 have am:=run_storeCells_at Tryz.prog g off 58 (Builtin.zeroCells #[Value.int .i64 0,Qi 0,Qi 0,Qi 0] n).toList 0 cs.toArray w hb (by simpa[hz]using aR) h1;obtain⟨m,rfl⟩:∃m,n=m+1:=⟨n-1,by omega⟩;simp only[Nat.add_zero]at am;refine⟨w.setRow g (cs.toArray.toList.take off++(Builtin.zeroCells #[Value.int .i64 0,Qi 0,Qi 0,Qi 0] (m+1)).toList++cs.toArray.toList.drop (off+(Builtin.zeroCells #[Value.int .i64 0,Qi 0,Qi 0,Qi 0] (m+1)).toList.length)).toArray,?_,⟨(Builtin.zeroCells #[Value.int .i64 0,Qi 0,Qi 0,Qi 0] (m+1)).toList++cs.drop (off+(Builtin.zeroCells #[Value.int .i64 0,Qi 0,Qi 0,Qi 0] (m+1)).toList.length),?_⟩,⟨rfl,rfl,rfl,by simp,fun k hk hn=>setRow_other w g k _ hn⟩⟩
 ·intro ty;have hv:∀w,(zeroValue 58).run Tryz.prog w= .ok (.agg #[Qi 0,Qi 0,Qi 0,Qi 0]) w:=fun w=>by kernel_rfl
  simp[Builtin.clear_,run_underlying Tryz.underlying47,hv,Value.cells,am]
 ·have:=setRow_heap w g cs.toArray (cs.toArray.toList.take off++(Builtin.zeroCells #[Value.int .i64 0,Qi 0,Qi 0,Qi 0] (m+1)).toList++cs.toArray.toList.drop (off+(Builtin.zeroCells #[Value.int .i64 0,Qi 0,Qi 0,Qi 0] (m+1)).toList.length)).toArray 58 (0,0) hb;unfold Blk;rw[this];simp only[Gx]
def ZrY(w:I0)(g cap:Nat)(l:List Edge)(e:Ending)(w':I0):Prop:=
 e= .returned (.slice (some ⟨g,0,none⟩) (ddF l l.length).length cap)∧(∃cs',Blk w' g 58 cs'∧cs'.take ((ddF l l.length).length*4)=((ddF l l.length).map Edge.cells).flatten)∧Upd (One g) w w'
theorem Zlm(w:I0)(A:OA)(c:Nat):CE 191 #[.slice A 0 c] w (.slice A 0 c):=by
 go_enter Tryz.func191,Tryz.ntmps191;go_wp2;go_ret;exact⟨rfl,rfl⟩
theorem Ztr(w:I0)(g cap:Nat)(l:List Edge)(cs:Ip)(hb:Blk w g 58 cs)(cf:cs.take (l.length*4)=(l.map Edge.cells).flatten)(au:l.length*4<=cs.length)(cT:l.length<=cap)(hl:l.length<=1000000):
  Calls Tryz.prog 191 #[.slice (some ⟨g,0,none⟩) l.length cap] w (ZrY w g cap l):=by
 have qG:∀(op:BinOp) (x y:Operand) (xs ys:Io) (w:I0),(eqGuard op 58 x y (.agg xs) (.agg ys)).run Tryz.prog w= .ok () w:=fun op x y xs ys w=>run_eqGuard_agg w op _ x y xs ys (by kernel_rfl)
 have fB:=Qh cf;clear cf
 have H1:Hid (ddF l 1=l.take 1):=Qh (by
  cases l with
  |nil=>rfl
  |cons a l=>rfl)
 by_cases h2:l.length<2
 ·have Hb:=Qh hb;clear hb;go_enter Tryz.func191,Tryz.ntmps191;go_wp2;go_ret
  have e1:ddF l l.length=l:=by
   rcases(show l.length=0∨l.length=1 by omega)with h|h
   ·rw[h,Gd h];rfl
   ·rw[h,H1.out,<-h,G7]
  exact⟨by rw[e1];rfl,⟨cs,Hb.out,by rw[e1];exact fB.out⟩,Il _ _⟩
 ·have qN:=Zto
  have qE:∀(w:I0) (x y:Edge),(binOp .eql 58 (.agg #[Qi x.f,Qi x.t,Qi x.k,Qi x.key]) (.agg #[Qi y.f,Qi y.t,Qi y.k,Qi y.key])).run Tryz.prog w= .ok (.bool (x==y)) w:=fun w x y=>by
   obtain⟨a,b,c,d⟩:=x;obtain⟨a',b',c',d'⟩:=y;rw[run_eql_struct,Zof];simp only[Result.andThen]
   by_cases h:(⟨a,b,c,d⟩:Edge)=⟨a',b',c',d'⟩<;>simp[h]
  go_enter Tryz.func191,Tryz.ntmps191;go_wp2
  go_loopg [3] l.length (fun gk s3 wr=>∃k:Nat,1<=k∧k<=l.length∧l.length-k<=gk∧s3= Qi k∧Upd No w wr∧Hid (ddF l k=l.take k))
  case atStart=>exact⟨1,Nat.le_refl _,by omega,by omega,rfl,Il _ _,H1⟩
  case round=>
   obtain⟨k,hk1,hk,hg,rfl,hu,hd⟩:=hrel;have aB:=hb.upd hu id
   by_cases hlt:k<l.length
   ·obtain⟨x,hx⟩:=Qe (l[k]);obtain⟨y,hy⟩:=Qe (l[k-1]);have c0:wr.cell? ⟨g,k*4,none⟩=some (Qi x.f):=by rw[aB.cell];exact Zc5 (c:=0) fB.out hlt (by rw[hx];rfl)
    have c1:wr.cell? ⟨g,k*4+1,none⟩=some (Qi x.t):=by rw[aB.cell];exact Zc5 (c:=1) fB.out hlt (by rw[hx];rfl)
    have c2:wr.cell? ⟨g,k*4+2,none⟩=some (Qi x.k):=by rw[aB.cell];exact Zc5 (c:=2) fB.out hlt (by rw[hx];rfl)
    have c3:wr.cell? ⟨g,k*4+3,none⟩=some (Qi x.key):=by rw[aB.cell];exact Zc5 (c:=3) fB.out hlt (by rw[hx];rfl)
    have d0:wr.cell? ⟨g,(k-1)*4,none⟩=some (Qi y.f):=by rw[aB.cell];exact Zc5 (c:=0) fB.out (by omega) (by rw[hy];rfl)
    have d1:wr.cell? ⟨g,(k-1)*4+1,none⟩=some (Qi y.t):=by rw[aB.cell];exact Zc5 (c:=1) fB.out (by omega) (by rw[hy];rfl)
    have d2:wr.cell? ⟨g,(k-1)*4+2,none⟩=some (Qi y.k):=by rw[aB.cell];exact Zc5 (c:=2) fB.out (by omega) (by rw[hy];rfl)
    have d3:wr.cell? ⟨g,(k-1)*4+3,none⟩=some (Qi y.key):=by rw[aB.cell];exact Zc5 (c:=3) fB.out (by omega) (by rw[hy];rfl)
    have X:=Qh hx;have Y:=Qh hy;clear hx hy;have q1:(k:Int)-1=((k-1:Nat):Int):=by omega
    have q2:IntKind.i64.wrap ((k:Int)-1)=((k-1:Nat):Int):=by rw[q1];exact IntWalk.i64_in _ (by omega)
    have q3:(0:Int)<=((k-1:Nat):Int):=Qn _;have q4:((k-1:Nat):Int)<(l.length:Int):=by omega
    have q5:(k:Int)<(l.length:Int):=by omega
    have q6:(0:Int)<=(k:Int):=Qn _;have hd1:=hd;clear hd
    by_cases hxy:x=y
    ·have aX:(x==y)=true:=by rw[hxy];exact beq_self_eq_true _
     have yi:=Qh hxy;clear hxy;go_wp2_with fail
     go_quiet (fail)
     go_wp2;clear q1 q2 q3 q4 q5 q6 c0 c1 c2 c3 d0 d1 d2 d3
     have hk0:l[k-1]? =l[k]? :=by
      rw[Qg hlt,Qg (show k-1<l.length by omega),X.out,Y.out,yi.out]
     have Cr:CInv l cs (k+1) k cs:=by
      have e1:ddF l (k+1)=l.take k:=by rw[Zj0 (by omega) hk0,hd1.out]
      refine⟨rfl,by rw[e1,Hm];omega,by omega,?_,rfl⟩;rw[e1,<-ZkW,<-fB.out,List.take_take,Nat.min_eq_left (by omega)]
     have tt:=Qh Cr;clear Cr hk0
     go_loopg [3,5] l.length (fun gk s3 s5 wr2=>∃(kk q:Nat) (cs':Ip),s3= Qi kk∧s5= Qi q∧1<=q∧k+q<=l.length∧l.length-(k+q)<=gk∧Blk wr2 g 58 cs'∧Upd (One g) w wr2∧CInv l cs (k+q) kk cs')
     case atStart=>exact⟨k,1,cs,rfl,rfl,Nat.le_refl _,by omega,by omega,aB,(hu.mono fun _ _ h=>h.elim).drewN _,tt.out⟩
     case round=>
      obtain⟨kk,q,cs',rfl,rfl,Fu,hq,dF,aS,hu2,hI⟩:=hrel;have bJ:=hI.lt;have aT:=hI.len
      by_cases hlt2:k+q<l.length
      ·obtain⟨u,hU⟩:=Qe (l[k+q]);obtain⟨v,hV⟩:=Qe (l[k+q-1]);have c0:wr.cell? ⟨g,k*4+q*4,none⟩=some (Qi u.f):=by rw[aS.cell,show k*4+q*4=(k+q)*4+0 by omega];exact hI.at_ fB.out (c:=0) (by omega) (by omega) (by rw[hU];rfl)
       have c1:wr.cell? ⟨g,k*4+q*4+1,none⟩=some (Qi u.t):=by rw[aS.cell,show k*4+q*4+1=(k+q)*4+1 by omega];exact hI.at_ fB.out (c:=1) (by omega) (by omega) (by rw[hU];rfl)
       have c2:wr.cell? ⟨g,k*4+q*4+2,none⟩=some (Qi u.k):=by rw[aS.cell,show k*4+q*4+2=(k+q)*4+2 by omega];exact hI.at_ fB.out (c:=2) (by omega) (by omega) (by rw[hU];rfl)
       have c3:wr.cell? ⟨g,k*4+q*4+3,none⟩=some (Qi u.key):=by rw[aS.cell,show k*4+q*4+3=(k+q)*4+3 by omega];exact hI.at_ fB.out (c:=3) (by omega) (by omega) (by rw[hU];rfl)
       have d0:wr.cell? ⟨g,k*4+(q-1)*4,none⟩=some (Qi v.f):=by rw[aS.cell,show k*4+(q-1)*4=(k+q-1)*4+0 by omega];exact hI.at_ fB.out (c:=0) (by omega) (by omega) (by rw[hV];rfl)
       have d1:wr.cell? ⟨g,k*4+(q-1)*4+1,none⟩=some (Qi v.t):=by rw[aS.cell,show k*4+(q-1)*4+1=(k+q-1)*4+1 by omega];exact hI.at_ fB.out (c:=1) (by omega) (by omega) (by rw[hV];rfl)
       have d2:wr.cell? ⟨g,k*4+(q-1)*4+2,none⟩=some (Qi v.k):=by rw[aS.cell,show k*4+(q-1)*4+2=(k+q-1)*4+2 by omega];exact hI.at_ fB.out (c:=2) (by omega) (by omega) (by rw[hV];rfl)
       have d3:wr.cell? ⟨g,k*4+(q-1)*4+3,none⟩=some (Qi v.key):=by rw[aS.cell,show k*4+(q-1)*4+3=(k+q-1)*4+3 by omega];exact hI.at_ fB.out (c:=3) (by omega) (by omega) (by rw[hV];rfl)
       have U:=Qh hU;have V:=Qh hV;clear hU hV;have q1:(q:Int)-1=((q-1:Nat):Int):=by omega
       have q2:IntKind.i64.wrap ((q:Int)-1)=((q-1:Nat):Int):=by rw[q1];exact IntWalk.i64_in _ (by omega)
       have q3:(0:Int)<=((q-1:Nat):Int):=Qn _;have q4:((q-1:Nat):Int)<((l.length-k:Nat):Int):=by omega
       have q5:(q:Int)<((l.length-k:Nat):Int):=by omega
       have q6:(0:Int)<=(q:Int):=Qn _;have q7:(0:Int)<=(kk:Int):=Qn _;have q8:(kk:Int)<(l.length:Int):=by omega
       have Cg:l[k+q]? =some u:=by rw[Qg hlt2,U.out]
       have BG:l[k+q-1]? =some v:=by rw[Qg (show k+q-1<l.length by omega),V.out]
       have Cq:=Qh Cg;have Bo:=Qh BG;have HI:=Qh hI;clear Cg BG hI
       by_cases huv:u=v
       ·have dp:(u != v)=false:=by rw[huv];simp
        have xK:=Qh huv;clear huv;go_wp2_with fail
        go_quiet (fail)
        clear q1 q2 q3 q4 q5 q6 q7 q8 c0 c1 c2 c3 d0 d1 d2 d3;go_wp2;go_roundg (l.length-(k+(q+1)))
        case measure=>omega
        case rel=>exact⟨kk,q+1,cs',rfl,by go_num,by omega,by omega,Nat.le_refl _,aS,hu2.drewN _,HI.out.skip (by omega) (by rw[Bo.out,Cq.out,xK.out])⟩
       ·have dp:(u != v)=true:=by simpa using huv
        have xK:=Qh huv;clear huv;obtain⟨o0,E1⟩:∃o,wr.cell? ⟨g,kk*4,none⟩=some o:=⟨_,by rw[aS.cell];exact Qg (by omega)⟩;obtain⟨o1,cn⟩:∃o,wr.cell? ⟨g,kk*4+1,none⟩=some o:=⟨_,by rw[aS.cell];exact Qg (by omega)⟩;obtain⟨o2,cE⟩:∃o,wr.cell? ⟨g,kk*4+2,none⟩=some o:=⟨_,by rw[aS.cell];exact Qg (by omega)⟩;obtain⟨o3,j6⟩:∃o,wr.cell? ⟨g,kk*4+3,none⟩=some o:=⟨_,by rw[aS.cell];exact Qg (by omega)⟩;have f0:wr.frozen? ⟨g,kk*4,none⟩=false:=aS.free _;have f1:wr.frozen? ⟨g,kk*4+1,none⟩=false:=aS.free _;have f2:wr.frozen? ⟨g,kk*4+2,none⟩=false:=aS.free _;have f3:wr.frozen? ⟨g,kk*4+3,none⟩=false:=aS.free _
        have K:CInv l cs (k+q+1) (kk+1) ((((cs'.set (kk*4) (Qi u.f)).set (kk*4+1) (Qi u.t)).set (kk*4+2) (Qi u.k)).set (kk*4+3) (Qi u.key)):=by
         have:=HI.out.keep hlt2 (by rw[Bo.out,Cq.out];intro e;injection e with e;exact xK.out e.symm) au;rw[U.out]at this;exact this
        have HK:=Qh K;clear K;go_wp2_with fail
        go_quiet (fail)
        go_wp2;clear q1 q2 q3 q4 q5 q6 q7 q8 c0 c1 c2 c3 d0 d1 d2 d3 E1 cn cE j6 f0 f1 f2 f3;go_roundg (l.length-(k+(q+1)))
        case measure=>omega
        case rel=>exact⟨kk+1,q+1,_,by go_num,by go_num,by omega,by omega,Nat.le_refl _,((((aS.drewN _).set_ _ _).set_ _ _).set_ _ _).set_ _ _,((((hu2.drewN _).setOne _ _).setOne _ _).setOne _ _).setOne _ _,HK.out⟩
      ·have hm:k+q=l.length:=by omega
       have gr:=hI.cnt;rw[hm]at gr;have aY:=hI.lo;rw[hm]at aY;obtain⟨w3,dI,⟨zs,dp⟩,hu3⟩:=ZiD wr g (kk*4) (l.length-kk) (cap-kk) cs' aS (by omega) (by omega);have EE:=Qh aY;have sG:=Qh gr;have q7:(0:Int)<=(kk:Int):=Qn _;have q8:(kk:Int)<=(l.length:Int):=by omega
       have q9:¬(q:Int)<((l.length-k:Nat):Int):=by omega
       have gM:(cs'.take (kk*4)).length=kk*4:=by rw[Hm];omega
       have Dh:=Qh gM;clear hI aY gr gM;go_wp2;go_ret;refine⟨by rw[<-sG.out];rfl,⟨_,dp,?_⟩,hu2.trans hu3⟩;rw[<-sG.out,<-EE.out];rw[Gc (by rw[Dh.out];exact Nat.le_refl _),List.take_take,Nat.min_self]
    ·have aX:(x==y)=false:=by rw[beq_eq_false_iff_ne];exact hxy
     have yi:=Qh hxy;clear hxy;go_wp2_with fail
     go_quiet (fail)
     clear q1 q2 q3 q4 q5 q6 c0 c1 c2 c3 d0 d1 d2 d3;go_wp2;go_roundg (l.length-(k+1))
     case measure=>omega
     case rel=>
      refine⟨k+1,by omega,by omega,Nat.le_refl _,by go_num,hu.drewN _,Qh ?_⟩;rw[Zj1 hlt (.inr ?_),hd1.out,Gb hlt];rw[Qg hlt,Qg (show k-1<l.length by omega),X.out,Y.out];intro e
      injection e with e
      exact yi.out e.symm
   ·obtain rfl:k=l.length:=by omega
    go_wp2;go_ret;have e1:ddF l l.length=l:=by rw[hd.out,G7]
    exact⟨by rw[e1];rfl,⟨cs,aB,by rw[e1];exact fB.out⟩,hu.mono fun _ _ h=>h.elim⟩
