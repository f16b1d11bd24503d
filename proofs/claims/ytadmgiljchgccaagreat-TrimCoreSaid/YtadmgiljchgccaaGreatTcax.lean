/- The keys that a transaction writes. -/
import Derived.Test.YtadmgiljchgccaaGreatLayCompactI
import Derived.Test.YtadmgiljchgccaaGreatTcah
import Derived.Test.YtadmgiljchgccaaGreatTcau
namespace Go.Proofs.YtadmgiljchgccaaGreat
open Go.RowKit
set_option linter.unusedVariables false
set_option linter.unusedSimpArgs false
set_option maxRecDepth 100000
set_option maxHeartbeats 8000000
theorem ZeO(w:I0)(base:Nat)(A:OA)(c:Nat)(l:Iv)(ae:w.ownsRow base 3 1 (.slice A l.length c) l.length (l.map (Value.int .i64)))(hl:l.length<=17592186044415):
  Calls Tryz.prog 49 #[.slice A l.length c] w fun e w'=>e= .returned (.slice A (Lib.compact l).length c)∧w'.ownsRow base 3 1 (.slice A (Lib.compact l).length c) (Lib.compact l).length ((Lib.compact l).map (Value.int .i64))∧Upd (Own (.slice A l.length c)) w w':=by
 rcases ae.2 with ⟨hv,hn⟩|⟨g,cap,cur,hv,nh,hg,bG,eK,cf,bj⟩
 ·have hl0:l=[]:=Gd hn;subst hl0;refine Calls.mono (AnyG.slices_Compact_int_empty compactI_lay A c w) ?_;rintro e w' ⟨rfl,rfl⟩;exact⟨rfl,ae,Il _ _⟩
 ·cases hv
  have hb:Blk w g 3 cur.toList:=by unfold Blk;rw[Array.toArray_toList];exact hg
  have uG:cur.size=c:=by simpa using cf
  have ig:cur.toList.take l.length=l.map (Value.int .i64):=by simpa using bj
  have hH:Sort.Holds (Value.int .i64) w g 0 l.toArray:=fun j hj=>by
   simp only[List.size_toArray]at hj;rw[Nat.zero_add];refine⟨?_,hb.free j⟩;rw[hb.cell j];have h1:(cur.toList.take l.length)[j]? =cur.toList[j]? :=by rw[List.getElem?_take,if_pos hj]
   rw[<-h1,ig,List.getElem?_map,Qg hj];simp[hj]
  have hlt:=hb.lt;have aT:(Lib.compact l).length<=l.length:=by rw[Zjr];exact ZjZ _ _
  refine Calls.mono (AnyG.slices_Compact_int compactI_lay g 0 c l w hH (by omega) bG) ?_;rintro e w' ⟨rfl,q,rfl⟩;obtain⟨R,hR,CK⟩:∃R:Iv,R=Lib.compact l++List.replicate (l.length-(Lib.compact l).length) 0∧R.length=l.length:=⟨_,rfl,by simp;omega⟩
  have e1:(Sort.putRow (Value.int .i64) (Sort.ahead w q) g 0 (Lib.compact l++List.replicate (l.length-(Lib.compact l).length) 0).toArray).heap[g]? =some (.cells (Sort.putCells (Value.int .i64) 0 R.toArray cur) 3 (0,0)):=by
   unfold Sort.putRow Sort.mapBlock;simp only;rw[Array.getElem?_modify];simp only[if_true];rw[show(Sort.ahead w q).heap=w.heap from rfl,hg,hR];rfl
  rw[Zkl _ _ (by simp only[List.size_toArray];omega)]at e1;refine⟨rfl,⟨by simp,.inr ⟨g,c,_,rfl,nh,e1,by omega,eK,?_,?_⟩⟩,⟨rfl,rfl,rfl,?_,fun k hk hn=>?_⟩⟩
  ·simp only[List.size_toArray,Gt,Hw,G5,Array.length_toList,CK];omega
  ·rw[Nat.mul_one]
   show List.take _ (List.map (Value.int .i64) R++_)=_
   rw[hR,Hu,Gx,Gc (by simp),List.take_of_length_le (by simp)]
  ·unfold Sort.putRow Sort.mapBlock;simp only[Array.size_modify];exact Nat.le_refl _
  ·have hne:g≠k:=fun e=>hn (by unfold Own;rw[e];rfl)
   unfold Sort.putRow Sort.mapBlock;simp only;rw[Array.getElem?_modify,if_neg hne];rfl
theorem Zo1{l:Is}{k:Nat}{x:HOp}(hk:k<l.length)(hx:l[k]=x)(hr:x.read=false):ZbU (l.take (k+1)) (fun o=> !o.read)=ZbU (l.take k) (fun o=> !o.read)++[x.key]:=by
 subst hx;unfold ZbU;rw[Gb hk,List.filter_append,Hu,List.filter_cons_of_pos (by rw[hr];rfl)];rfl
theorem Zq0{l:Is}{k:Nat}{x:HOp}(hk:k<l.length)(hx:l[k]=x)(hr:x.read=true):ZbU (l.take (k+1)) (fun o=> !o.read)=ZbU (l.take k) (fun o=> !o.read):=by
 subst hx;unfold ZbU;rw[Gb hk,List.filter_append,Hu,List.filter_cons_of_neg (by rw[hr];decide)];simp
theorem Zq1(l:Is)(f:HOp->Bool):(ZbU l f).length<=l.length:=by
 unfold ZbU;rw[Hw];exact Gj _ _
theorem Zxh(F:Iw)(w:I0)(i0:Int)(dn:Bool)(A:OA)(c:Nat)(l:Is)(h:HOps F w A l)(hl:Zt l.length):
  Calls Tryz.prog 121 #[.agg #[Qi i0,.bool dn,.slice A l.length c],.func (.func 122) #[] #[]] w (Zcs w (ZbB l)):=by
 unfold Zt at hl;go_enter Tryz.func121,Tryz.ntmps121;go_wp2
 go_loopg [5,11] l.length (fun gk s i wr=>∃(k:Nat) (A5:OA) (c5:Nat) (xs:Iv),k+gk=l.length∧i= Qi k∧s= .slice A5 xs.length c5∧Hid (xs=ZbU (l.take k) fun o=> !o.read)∧xs.length<=k∧
  wr.ownsRow w.heap.size 3 1 (.slice A5 xs.length c5) xs.length (xs.map (Value.int .i64))∧Upd No w wr)
 case atStart=>exact⟨0,none,0,[],by omega,rfl,rfl,Qh (by simp[ZbU]),by simp,Ik _ _ _ _,(Il _ _).alloc _⟩
 case round=>
  obtain⟨k,A5,c5,xs,aI,rfl,rfl,cZ,hxl,ae,hu⟩:=hrel
  by_cases hlt:k<l.length
  ·obtain⟨ad,aH,q0,q1,q2,q3⟩:=(h.upd hu Qo).at_ hlt;obtain⟨x,hx⟩:=Qe (l[k]);rw[hx]at q0 q1 q2 q3;subst aH;have X:=Qh hx;clear hx;have b1:(0:Int)<=(k:Int):=Qn _;have b2:(k:Int)<(l.length:Int):=by omega
   have uA:=(Il No wr).alloc (.cells #[.bool x.read,Qi x.key,Qi x.tx,Qi x.nth] 66);have bo:=Im wr 66 [.bool x.read,Qi x.key,Qi x.tx,Qi x.nth];have aM:=Za ae uA Qo
   cases hr:x.read
   ·rw[hr]at q0 uA bo aM;have HS:=Qh (Zo1 hlt X.out hr);have Hr:=Qh hr;clear hr;go_wp2_with fail;refine Ck (ZnV _ ⟨false,x.key,x.tx,x.nth⟩) fun w1 hu1=>?_;have bo1:=bo.upd hu1 id;have g1:=bo1.cell 1;simp only[Qz,Qs]at g1;have aD:=Za aM hu1 Qo;have fG:=(uA.trans hu1).size;have iX:=hu.size;have ie:=Qh ((hu.trans uA).trans hu1);clear aM uA hu1;go_wp2_with (at_builtin;refine ZbG rfl rfl Zay (v:= .slice A5 xs.length c5) (cells:=[Qi x.key]) (by rfl) rfl aD rfl rfl (by omega) (by omega) (by omega) ?_;intro g' c' w2 aQ hu3 gd qq);go_roundg (gk-1)
    case measure=>omega
    case rel=>
     refine⟨k+1,some ⟨g',0,none⟩,c',xs++[x.key],by omega,by go_num,by simp,Qh (by rw[HS.out,cZ.out]),by simp;omega,by simpa using aQ,ie.out.then_ hu3 fun i e=>?_⟩;exact .inr (aD.lt i e).1
   ·rw[hr]at q0 uA bo aM;have HS:=Qh (Zq0 hlt X.out hr);have Hr:=Qh hr;clear hr;go_wp2_with fail;refine Ck (ZnV _ ⟨true,x.key,x.tx,x.nth⟩) fun w1 hu1=>?_;have ie:=Qh ((hu.trans uA).trans hu1);have aD:=Za aM hu1 Qo;clear aM uA hu1;go_wp2;go_roundg (gk-1);exact⟨k+1,A5,c5,xs,by omega,by go_num,rfl,Qh (by rw[HS.out,cZ.out]),by omega,aD,ie.out⟩;omega
  ·obtain rfl:k=l.length:=by omega
   have Hx:=Qh (show xs=ZbU l fun o=> !o.read by rw[cZ.out,G7]);clear cZ;have im:=Qh (Zbk xs);have Hk:=Qh (show Lib.compact (Z1 xs)=ZbB l by rw[ZbP,Hx.out];rfl);go_wp2_with fail;refine(Zgb _ _ A5 c5 xs ae (by omega)).mono ?_;rintro e w1 ⟨rfl,cn,hu1⟩;have gy:w1.ownsRow w.heap.size 3 1 (.slice A5 (Z1 xs).length c5) (Z1 xs).length ((Z1 xs).map (Value.int .i64)):=by rw[im.out];exact cn
   have ia:=ZeO w1 w.heap.size A5 c5 (Z1 xs) gy (by rw[im.out];omega);rw[Hk.out,im.out]at ia;have uY:=Qh ia;have du:=Qh (show∀i,Own (.slice A5 xs.length c5) i->w.heap.size<=i from fun i e=>(ae.lt i e).1);clear ia cn gy ae;go_wp2_with fail;refine(uY.out).mono ?_;rintro e w2 ⟨rfl,cE,hu2⟩;go_wp2;go_ret;exact⟨A5,c5,rfl,cE,(hu.then_ hu1 fun i e=> .inr (du.out i e)).then_ hu2 fun i e=> .inr (du.out i e)⟩
theorem Zo2(F:Iw)(w:I0)(i0:Int)(dn:Bool)(A:OA)(c:Nat)(l:Is)(h:HOps F w A l)(hl:Zt l.length):
  Calls Tryz.prog 69 #[.agg #[Qi i0,.bool dn,.slice A l.length c]] w (Zcs w (ZbB l)):=by
 have h1:=h.upd ((Il No w).alloc (.cells #[Qi i0,.bool dn,.slice A l.length c] 39)) Qo;go_enter Tryz.func69,Tryz.ntmps69;go_wp2_with fail;refine(Zxh F _ i0 dn A c l h1 hl).mono ?_;rintro e w1 ⟨A1,c1,rfl,ho,hu⟩;go_wp2;go_ret;exact⟨A1,c1,rfl,ZK ho (by simp),((Il No w).alloc _).trans hu⟩
/- Who writes each key. -/
structure MapSl (w:World) (base b:Nat) (m:List (Int×Value)) (f:Int->List Int):Prop where
 is:MapIs w b (fun n:Int=>Value.int .i64 n) m
 row:∀key,∃A c,(ZX m key).getD (.slice none 0 0)= .slice A (f key).length c∧w.ownsRow base 3 1 (.slice A (f key).length c) (f key).length ((f key).map (Value.int .i64))
 apart:∀k1 k2,k1≠k2->∀i,Own ((ZX m k1).getD (.slice none 0 0)) i->¬Own ((ZX m k2).getD (.slice none 0 0)) i
theorem MapSl.upd{S:Iw}{w w':I0}{base b:Nat}{m:List (Int×Iz)}{f:Int->Iv}(h:MapSl w base b m f)(k:Upd S w w')(hb:¬S b)(hS:∀i,base<=i->i<w.heap.size->¬S i):MapSl w' base b m f:=by
 refine⟨h.is.upd k hb,fun key=>?_,h.apart⟩;obtain⟨A,c,h1,h2⟩:=h.row key;exact⟨A,c,h1,Za h2 k fun i hi=>by have:=h2.lt i hi;exact hS i this.1 this.2⟩
theorem MapSl.new{w:I0}{base b:Nat}(h:MapIs w b (fun n:Int=>Value.int .i64 n) []):MapSl w base b [] fun _=>[]:=
 ⟨h,fun _=>⟨none,0,rfl,Ik _ _ _ _⟩,fun _ _ _ i hi=>by simp[ZdW,Own,Value.ownBlock]at hi⟩
theorem MapSl.congr{w:I0}{base b:Nat}{m:List (Int×Iz)}{f g:Int->Iv}(h:MapSl w base b m f)(DO:∀key,f key=g key):MapSl w base b m g:=by
 have:f=g:=funext DO;rw[<-this];exact h
theorem MapSl.put{w w1 w2:I0}{base b:Nat}{m:List (Int×Iz)}{f:Int->Iv}{key x:Int}{A A':OA}{c c':Nat}(h:MapSl w base b m f)
  (hA:(ZX m key).getD (.slice none 0 0)= .slice A (f key).length c) (hb:b<base)
  (ae:w1.ownsRow base 3 1 (.slice A' ((f key).length+1) c') ((f key).length+1) ((f key++[x]).map (Value.int .i64)))
  (hu1:Upd (Own (.slice A (f key).length c)) w w1) (hg:∀i,Own (.slice A' ((f key).length+1) c') i->Own (.slice A (f key).length c) i∨w.heap.size<=i)
  (bh:MapIs w2 b (fun n:Int=>Value.int .i64 n) (ZI m key (.slice A' ((f key).length+1) c'))) (hu2:Upd (One b) w1 w2):
  MapSl w2 base b (ZI m key (.slice A' ((f key).length+1) c')) (fun k=>if k=key then f key++[x] else f k):=by
 have hB:∀i,base<=i->¬One b i:=fun i hi e=>by cases e;omega
 refine⟨bh,fun k=>?_,fun k1 k2 hne i hi hi2=>?_⟩
 ·by_cases hk:k=key
  ·subst hk;simp only[if_true];refine⟨A',c',by rw[Zai];simp,?_⟩;have:=Za ae hu2 fun i hi=>hB i (ae.lt i hi).1
   simpa using this
  ·simp only[if_neg hk];obtain⟨B,d,h1,h2⟩:=h.row k;refine⟨B,d,by rw[ZaI _ _ hk];exact h1,Za (Za h2 hu1 fun i hi e=>?_) hu2 fun i hi=>hB i (h2.lt i hi).1⟩;exact h.apart k key hk i (by rw[h1];exact hi) (by rw[hA];exact e)
 ·by_cases e1:k1=key
  ·subst e1;have jV:k2≠k1:=fun e=>hne e.symm
   rw[Zai]at hi;rw[ZaI _ _ jV]at hi2;rcases hg i hi with hi|hi
   ·exact h.apart k1 k2 hne i (by rw[hA];exact hi) hi2
   ·obtain⟨B,d,h1,h2⟩:=h.row k2;rw[h1]at hi2;have:=(h2.lt i hi2).2;omega
  ·rw[ZaI _ _ e1]at hi
   by_cases e2:k2=key
   ·subst e2;rw[Zai]at hi2;rcases hg i hi2 with hi2|hi2
    ·exact h.apart k1 k2 hne i hi (by rw[hA];exact hi2)
    ·obtain⟨B,d,h1,h2⟩:=h.row k1;rw[h1]at hi;have:=(h2.lt i hi).2;omega
   ·rw[ZaI _ _ e2]at hi2;exact h.apart k1 k2 hne i hi hi2
theorem Znu(s a b:Iv):Zcr s (a++b)=Zcr (Zcr s a) b:=by
 induction a generalizing s with
 |nil=>rfl
 |cons x a ih=>exact ih _
theorem ZrW(m:List (Int×Iz))(key:Int)(v:Iz)(s ks:Iv)(h:m.map (·.1)=Zcr s ks):(ZI m key v).map (·.1)=Zcr s (ks++[key]):=by
 rw[ZqK,Znu,h];rfl
theorem Zlv(a b:List HTx)(s:Iv):ZE (a++b) s=ZE b (ZE a s):=by
 induction a generalizing s with
 |nil=>rfl
 |cons x a ih=>exact ih _
theorem Zix{txs:List HTx}{k:Nat}{x:HTx}(hk:k<txs.length)(hx:txs[k]=x):ZE (txs.take (k+1)) []=if x.done then Zcr (ZE (txs.take k) []) (ZbB x.ops) else ZE (txs.take k) []:=by
 subst hx;rw[Gb hk,Zlv];rfl
theorem ZgB{txs:List HTx}{k:Nat}{x:HTx}(hk:k<txs.length)(hx:txs[k]=x)(key:Int):Zj (txs.take (k+1)) key=Zj (txs.take k) key++if x.done=true∧key∈ZbB x.ops then [x.id] else []:=by
 subst hx;unfold Zj;rw[Gb hk,List.filter_append,Hu]
 congr 1
 by_cases h:txs[k].done=true∧key∈ZbB txs[k].ops
 ·rw[if_pos h,List.filter_cons_of_pos (by rw[h.1];simpa using h.2)];rfl
 ·rw[if_neg h,List.filter_cons_of_neg (by
   intro e;simp only[Hj,List.contains_iff_mem]at e;exact h e)]
  rfl
def wrF(txs:List HTx)(k:Nat)(id:Int)(ks:Iv)(key:Int):Iv:=Zj (txs.take k) key++if key∈ks then [id] else []
theorem Zup(txs:List HTx)(k:Nat)(id key:Int)(ks:Iv)(hn:key∉ks)(u:Int):(if u=key then wrF txs k id ks key++[id] else wrF txs k id ks u)=wrF txs k id (ks++[key]) u:=by
 unfold wrF
 by_cases h:u=key
 ·subst h;rw[if_pos rfl,if_neg hn,if_pos (by simp),Ho]
 ·rw[if_neg h]
  congr 1
  simp[h]
theorem Zuq(txs:List HTx)(k:Nat)(id u:Int):Zj (txs.take k) u=wrF txs k id [] u:=by unfold wrF;simp
theorem Zit(txs:List HTx)(key:Int):(Zj txs key).length<=txs.length:=by
 unfold Zj;rw[Hw];exact Gj _ _
theorem ZvJ(txs:List HTx)(k:Nat)(id:Int)(ks:Iv)(key:Int):(wrF txs k id ks key).length<=k+1:=by
 unfold wrF;rw[Gt];have h1:=Zit (txs.take k) key;have h2:=List.length_take_le k txs
 split<;>simp<;>omega
theorem ZpM(w:I0):(zeroValue 27).run Tryz.prog w= .ok (.slice none 0 0) w:=by kernel_rfl
def Zyu(w:I0)(txs:List HTx)(e:Ending)(w':I0):Prop:=∃b m,e= .returned (.map (some b))∧w.heap.size<=b∧b<w.heap.size+2∧m.map (·.1)=ZE txs []∧MapSl w' (w.heap.size+2) b m (Zj txs)∧Upd No w w'
def Apart(m:List (Int×Iz))(g:Nat)(v:Iz):Prop:=∀key i,Own ((ZX m key).getD (.slice none 0 0)) i->i≠g∧¬Own v i
theorem Apart.put{m:List (Int×Iz)}{g z:Nat}{v old new:Iz}{key:Int}(h:Apart m g v)(ho:(ZX m key).getD (.slice none 0 0)=old)(hn:∀i,Own new i->Own old i∨z<=i)(hg:g<z)(hv:∀i,Own v i->i<z):Apart (ZI m key new) g v:=fun k i hi=>by
 by_cases e:k=key
 ·subst e;rw[Zai]at hi;rcases hn i hi with h1|h1
  ·exact h k i (by rw[ho];exact h1)
  ·exact⟨by omega,fun h2=>by have:=hv i h2;omega⟩
 ·rw[ZaI _ _ e]at hi;exact h k i hi
theorem MapSl.block_lt{w:I0}{base b:Nat}{m:List (Int×Iz)}{f:Int->Iv}(h:MapSl w base b m f)(key:Int)(i:Nat)(hi:Own ((ZX m key).getD (.slice none 0 0)) i):base<=i∧i<w.heap.size:=by
 obtain⟨A,c,h1,h2⟩:=h.row key;rw[h1]at hi;exact h2.lt i hi
theorem Zs4(F:Iw)(w:I0)(h:Hist)(H:h.lies F w)(hs:h.txs.length<=4096):Calls Tryz.prog 33 #[h.val] w (Zyu w h.txs):=by
 obtain⟨txs,ords,A,c,B,d⟩:=h;simp only at hs;unfold Hist.val;have uH:=(Il No w).alloc (.cells #[.slice A txs.length c,.slice B ords.length d] 25);have eT:= @run_makeMap Tryz.prog;have iJ:=MapIs.new (α:=Int) (w.alloc (.cells #[.slice A txs.length c,.slice B ords.length d] 25)) (fun n:Int=>Value.int .i64 n);simp only[Ij]at iJ;have HN:=Qh (MapSl.new (base:=w.heap.size+2) iJ);clear iJ;go_enter Tryz.func33,Tryz.ntmps33;go_wp2
 go_loopg [12] txs.length (fun gk i wr=>∃(k:Nat) (m:List (Int×Iz)),k+gk=txs.length∧i= Qi k∧Hid (MapSl wr (w.heap.size+2) (w.heap.size+1) m (Zj (txs.take k)))∧Hid (m.map (·.1)=ZE (txs.take k) [])∧
  Upd No (w.alloc (.cells #[.slice A txs.length c,.slice B ords.length d] 25)) wr)
 case atStart=>exact⟨0,[],by omega,rfl,Qh HN.out,Qh rfl,(Il No _).alloc _⟩
 case round=>
  obtain⟨k,m,aI,rfl,hm,hk,hu⟩:=hrel;clear eT
  by_cases hlt:k<txs.length
  ·have H1:=H.upd (uH.trans hu) Qo;obtain⟨ad,aH,q0,q1,q2⟩:=H1.tx_at hlt;simp only at aH q0 q1 q2;have eo:=H1.tx txs[k] (Hg hlt);obtain⟨x,hx⟩:=Qe (txs[k]);rw[hx]at q0 q1 q2 eo;subst aH;have X:=Qh hx;have XL:=Qh eo;have b1:(0:Int)<=(k:Int):=Qn _;have b2:(k:Int)<(txs.length:Int):=by omega
   have uA:=(Il No wr).alloc (.cells #[Qi x.id,.bool x.done,.slice x.A x.ops.length x.c] 39);have bo:=Qh (Im wr 39 [Qi x.id,.bool x.done,.slice x.A x.ops.length x.c]);have cd:=Qh (hm.out.upd uA id (fun _ _ _=>id));clear hx eo H1
   cases hd:x.done
   ·rw[hd]at q1 uA bo;have HS:=Qh (show ZE (txs.take (k+1)) []=ZE (txs.take k) [] by rw[Zix hlt X.out,hd];rfl);have HW:=Qh (show∀key,Zj (txs.take k) key=Zj (txs.take (k+1)) key from fun key=>by rw[ZgB hlt X.out,hd];simp);have bh:=Qh ((hm.out.upd uA id (fun _ _ _=>id)).congr HW.out);clear hd;go_wp2;go_roundg (gk-1);exact⟨k+1,m,by omega,by go_num,bh,Qh (by rw[HS.out];exact hk.out),hu.trans uA⟩;omega
   ·rw[hd]at q1 uA bo;have HS:=Qh (show ZE (txs.take (k+1)) []=Zcr (ZE (txs.take k) []) (ZbB x.ops) by rw[Zix hlt X.out,hd];rfl);have HW:=Qh (show∀key,Zj (txs.take (k+1)) key=wrF txs k x.id (ZbB x.ops) key from fun key=>by rw[ZgB hlt X.out,hd];unfold wrF;simp);have bh:=Qh ((hm.out.upd uA id (fun _ _ _=>id)).congr (Zuq txs k x.id));clear hd;have bJ:=Zo2 F _ x.id true x.A x.c x.ops (HOps.upd XL.out.1 uA Qo) XL.out.2.2.1;obtain⟨ks,kO⟩:=Qe (ZbB x.ops);rw[kO]at bJ;have HK:=Qh bJ;have mF:=Qh kO;have hnd:=Qh (show ks.Pairwise (·<·) by rw[<-kO];exact ZcN _);have gC:ks.length<=x.ops.length:=by rw[<-kO];exact Nat.le_trans (ZeH _) (Zq1 _ _)
    have hxl:=XL.out.2.2.1;unfold Zt at hxl;clear bJ kO;go_wp2_with fail;refine(HK.out).mono ?_;rintro e w1 ⟨A1,c1,rfl,cn,hu1⟩;have ic:=Qh (bh.out.upd hu1 id (fun _ _ _=>id));have bo1:=Qh (bo.out.upd hu1 id);have uf:=Qh cn;have fG:=uA.size;have eI:=hu1.size;have eY:=hu.size;have fT:=hm.out.is.lt;simp only[Ij]at fG eI eY;have zc:=Qh ((hu.trans uA).trans hu1)
    have ni:Apart m wr.heap.size (.slice A1 ks.length c1):=fun key i hi=>by
     have h1:=hm.out.block_lt key i hi;refine⟨by omega,fun h2=>?_⟩;have h3:=(cn.lt i h2).1;simp only[Ij]at h3;omega
    have tC:=Qh ni;clear ni cn hu1 uA;have kG:=ZK (b2:=wr.heap.size+1) uf.out (by simp);clear uf;go_wp2;generalize wr.heap.size=z5 at*;generalize gk=GK at*
    go_loopg [22] ks.length (fun gj i wj=>∃(j:Nat) (mj:List (Int×Iz)),j+gj=ks.length∧i= Qi j∧Hid (MapSl wj (w.heap.size+2) (w.heap.size+1) mj (wrF txs k x.id (ks.take j)))∧
     Hid (mj.map (·.1)=Zcr (ZE (txs.take k) []) (ks.take j))∧Hid (Apart mj z5 (.slice A1 ks.length c1))∧Hid (Blk wj z5 39 [Qi x.id,.bool true,.slice x.A x.ops.length x.c])∧
     wj.ownsRow (z5+1) 3 1 (.slice A1 ks.length c1) ks.length (ks.map (Value.int .i64))∧Upd No (w.alloc (.cells #[.slice (some ad) txs.length c,.slice B ords.length d] 25)) wj)
    case atStart=>exact⟨0,m,by omega,rfl,ic,Qh hk.out,tC,bo1,kG,zc.out⟩
    case round=>
     obtain⟨j,mj,kP,rfl,mH,AK,oj,boj,qt,huj⟩:=hrel
     by_cases hltj:j<ks.length
     ·have hI:Ints (fun i=>z5+1<=i) _ A1 ks:=Ints.of_own qt;obtain⟨ad1,Fq,_,_,c0⟩:=hI.at_ hltj;obtain⟨key,hkey⟩:=Qe (ks[j]);rw[hkey]at c0;subst Fq;have KE:=Qh hkey;clear hkey hI;have b3:(j:Int)<(ks.length:Int):=by omega
      have b4:(0:Int)<=(j:Int):=Qn _;obtain⟨Ak,ck,aK,lw⟩:=mH.out.row key;obtain⟨fk,tw⟩:=Qe (wrF txs k x.id (ks.take j) key);have pr:fk.length<=k+1:=by rw[<-tw];exact ZvJ txs k x.id _ key
      rw[tw]at aK lw;have e1:=ZP ZdN Tryz.underlying71 ZpM mH.out.is key;rw[aK]at e1;have ob0:=boj.out.cell 0;simp only[Qz]at ob0;have lI:=Qh aK;have nB:=Qh tw
      have HP:=Qh (show∀u,(if u=key then wrF txs k x.id (ks.take j) key++[x.id] else wrF txs k x.id (ks.take j) u)=wrF txs k x.id (ks.take (j+1)) u from fun u=>by
       rw[Gb hltj,KE.out];refine Zup txs k x.id key (ks.take j) (fun hm=>?_) u;rw[List.mem_take_iff_getElem]at hm;obtain⟨q,hq,e⟩:=hm;have:=List.pairwise_iff_getElem.1 hnd.out q j (by omega) (by omega) (by omega);rw[e,KE.out]at this;exact Int.lt_irrefl _ this)
      have Dx:=Qh (show∀v,(ZI mj key v).map (·.1)=Zcr (ZE (txs.take k) []) (ks.take (j+1)) from fun v=>by
       rw[Gb hltj,KE.out];exact ZrW mj key v _ _ AK.out)
      clear aK tw;have Fh:=huj.size;simp only[Ij]at Fh;have C4:=boj.out.lt;have pu:=Qh mH.out.is;have ft:=pu.out.lt
      go_wp2_with (first
       |(at_builtin;refine ZbG rfl rfl Zay (v:= .slice Ak fk.length ck) (cells:=[Qi x.id]) (by rfl) rfl lw rfl rfl (by omega) (by omega) (by omega) ?_;intro g' c' w4 aF hu4 dd wM)
       |(at_mapUpdate;refine Zmk rfl rfl ZdN Tryz.underlying71 (a:=key) (val:= .slice (some ⟨g',0,none⟩) (fk.length+1) c') (by rfl) (by rfl) (by rfl) (pu.out.upd hu4 (fun e=>by have:=(lw.lt _ e).1;omega)) ?_;intro w5 fR hu5))
      go_roundg (gk-1)
      case measure=>omega
      case rel=>
       have a7:∀i,Own (.slice Ak fk.length ck) i->w.heap.size+2<=i∧i<_:=fun i hi=>lw.lt i hi
       have kX:∀i,Own (.slice (some ⟨g',0,none⟩) (fk.length+1) c') i->Own (.slice Ak fk.length ck) i∨_<=i:=fun i hi=>by
        have e:g'=i:=by simpa[Own,Value.ownBlock]using hi
        rw[<-e];exact dd
       have wB:=mH.out.put (key:=key) (x:=x.id) (A:=Ak) (c:=ck) (by rw[lI.out,nB.out]) (by omega) (by rw[nB.out];simpa using aF) (by rw[nB.out];exact hu4) (by rw[nB.out];exact kX) (by rw[nB.out];exact fR) hu5;refine⟨j+1,_,by omega,by go_num,Qh (wB.congr (g:=wrF txs k x.id (ks.take (j+1))) HP.out),Qh ?_,Qh ?_,Qh ?_,?_,?_⟩
       ·rw[nB.out];exact Dx.out _
       ·rw[nB.out];exact oj.out.put lI.out kX C4 (fun i hi=>(qt.lt i hi).2)
       ·exact(boj.out.upd hu4 (fun e=>(oj.out key z5 (by rw[lI.out];exact e)).1 rfl)).upd hu5 (fun e=>by cases e;omega)
       ·exact Za (Za qt hu4 (fun i hi e=>(oj.out key i (by rw[lI.out];exact e)).2 hi)) hu5 (fun i hi e=>by have:=(qt.lt i hi).1;cases e;omega)
       ·exact(huj.then_ hu4 fun i e=> .inr (by have:=(a7 i e).1;simp only[Ij];omega)).then_ hu5 fun i e=> .inr (by cases e;simp)
     ·obtain rfl:j=ks.length:=by omega
      have wN:=Qh ((show MapSl _ (w.heap.size+2) (w.heap.size+1) mj (wrF txs k x.id ks) by have:=mH.out;rwa [G7]at this).congr (g:=Zj (txs.take (k+1))) (fun key=>by rw[HW.out,mF.out]));have xu:=Qh (show mj.map (·.1)=ZE (txs.take (k+1)) [] by rw[HS.out,mF.out];have:=AK.out;rwa [G7]at this);clear qt;go_wp2;go_roundg (GK-1);exact⟨k+1,mj,by omega,by go_num,wN,xu,huj⟩;omega
  ·obtain rfl:k=txs.length:=by omega
   have wN:=Qh (show MapSl _ (w.heap.size+2) (w.heap.size+1) m (Zj txs) by have:=hm.out;rwa [G7]at this);have xu:=Qh (show m.map (·.1)=ZE txs [] by have:=hk.out;rwa [G7]at this);go_wp2;go_ret;exact⟨w.heap.size+1,m,rfl,by omega,by omega,xu.out,wN.out,uH.trans hu⟩
/- Whether a history is right. -/
theorem Zhc{p:Nat->Bool}{n k:Nat}(hk:k<n)(h:p k=false):(List.range n).all p=false:=by
 rw[List.all_eq_false];exact⟨k,Ic.2 hk,by simp[h]⟩
theorem Zc0{p:Nat->Bool}{k:Nat}(h:(List.range k).all p=true)(hk:p k=true):(List.range (k+1)).all p=true:=by
 rw[List.range_succ,List.all_append,h];simp[hk]
section
variable {h:Hist} {k:Nat}
theorem ZeJ(hk:k<h.txs.length)(ht:Zdf h.txs k=false):Zb h=false:=by
 unfold Zb;rw[Zhc hk ht];simp
theorem Zea(hk:k<h.ords.length)(ht:Zb4 h.txs h.ords k=false):Zb h=false:=by
 unfold Zb;rw[Zhc hk ht];simp
theorem Zqk(hl:((ZE h.txs []).length==h.ords.length)=false):Zb h=false:=by
 unfold Zb;rw[hl];simp
theorem ZiJ(hl:4096<h.txs.length):Zb h=false:=by
 unfold Zb;rw[Qf (by omega)];simp
theorem Zkg(h1:h.txs.length<=4096)(h2:(List.range h.txs.length).all (Zdf h.txs)=true)(h3:((ZE h.txs []).length==h.ords.length)=true)(h4:(List.range h.ords.length).all (Zb4 h.txs h.ords)=true):Zb h=true:=by
 unfold Zb;rw[Qt h1,h2,h3,h4];rfl
end
section
variable {txs:List HTx} {k:Nat} {x:HTx}
def Ze0(txs:List HTx)(k:Nat)(id:Int):Bool:=match k with|0=>true|j+1=>(match txs[j]? with|some u=>decide (u.id<id)|none=>true)
theorem Zuz(hk:k<txs.length)(hx:txs[k]=x):Zdf txs k=(Ze0 txs k x.id&&ZaT x.id x.ops==0&&Za0 txs x.id x.ops):=by
 unfold Zdf Ze0;rw[Qg hk,hx]
 cases k<;>rfl
theorem ZtR{y:HTx}(hk:0<k)(hk2:k<txs.length)(hy:txs[k-1]'(by omega)=y)(id:Int)(h:id<=y.id):Ze0 txs k id=false:=by
 obtain⟨j,rfl⟩:∃j,k=j+1:=⟨k-1,by omega⟩;simp only[Nat.add_sub_cancel]at hy
 show(match txs[j]? with|some u=>decide (u.id<id)|none=>true)=_
 rw[Qg (by omega),hy];simp only[decide_eq_false_iff_not];omega
theorem ZrT{y:HTx}(hk:0<k)(hk2:k<txs.length)(hy:txs[k-1]'(by omega)=y)(id:Int)(h:y.id<id):Ze0 txs k id=true:=by
 obtain⟨j,rfl⟩:∃j,k=j+1:=⟨k-1,by omega⟩;simp only[Nat.add_sub_cancel]at hy
 show(match txs[j]? with|some u=>decide (u.id<id)|none=>true)=_
 rw[Qg (by omega),hy];simp only[Gw];omega
end
section
variable {txs:List HTx} {ords:List HOrd} {k:Nat} {x:HOrd}
def ZeZ(ords:List HOrd)(k:Nat)(key:Int):Bool:=match k with|0=>true|j+1=>(match ords[j]? with|some u=>decide (u.key<key)|none=>true)
theorem ZsL(hk:k<ords.length)(hx:ords[k]=x):Zb4 txs ords k=(ZeZ ords k x.key&& !x.txs.isEmpty&&(Zbu x.txs==Zbu (Zj txs x.key))):=by
 unfold Zb4 ZeZ;rw[Qg hk,hx]
 cases k<;>rfl
theorem ZrU{y:HOrd}(hk:0<k)(hk2:k<ords.length)(hy:ords[k-1]'(by omega)=y)(key:Int)(h:key<=y.key):ZeZ ords k key=false:=by
 obtain⟨j,rfl⟩:∃j,k=j+1:=⟨k-1,by omega⟩;simp only[Nat.add_sub_cancel]at hy
 show(match ords[j]? with|some u=>decide (u.key<key)|none=>true)=_
 rw[Qg (by omega),hy];simp only[decide_eq_false_iff_not];omega
theorem ZpD{y:HOrd}(hk:0<k)(hk2:k<ords.length)(hy:ords[k-1]'(by omega)=y)(key:Int)(h:y.key<key):ZeZ ords k key=true:=by
 obtain⟨j,rfl⟩:∃j,k=j+1:=⟨k-1,by omega⟩;simp only[Nat.add_sub_cancel]at hy
 show(match ords[j]? with|some u=>decide (u.key<key)|none=>true)=_
 rw[Qg (by omega),hy];simp only[Gw];omega
end
theorem ZsE(a b:Iv):ZiM a b=(Zbu a==Zbu b):=by unfold ZiM;rw[ZhL,ZhL]
section
variable {F:Iw} {w:I0} {i0:Int} {dn:Bool} {A:OA} {c:Nat} {l:Is}
theorem Zew{v:Int}(h:HOps F w A l)(hl:Zt l.length)(hv:ZaT i0 l=v):CN 31 #[.agg #[Qi i0,.bool dn,.slice A l.length c]] w (Qi v):=by subst hv;exact ZvN F w i0 dn A c l h hl
theorem Zgh{v:Bool}{txs:List HTx}{ords:List HOrd}{A' B:OA}{c' d:Nat}(H:Hist.lies F w ⟨txs,ords,A',c',B,d⟩)(h:HOps F w A l)(hl:Zt l.length)(hv:Za0 txs i0 l=v):
  CN 32 #[.agg #[.slice A' txs.length c',.slice B ords.length d],.agg #[Qi i0,.bool dn,.slice A l.length c]] w (.bool v):=by subst hv;exact Zvc F w ⟨txs,ords,A',c',B,d⟩ i0 dn A c l H h hl
end
theorem ZiQ{F G:Iw}{w:I0}{A B:OA}{c d:Nat}{a b:Iv}{v:Bool}(ha:Ints F w A a)(hb:Ints G w B b)(hl:a.length<=17592186044415)(bC:b.length<=17592186044415)(hv:ZiM a b=v):
  CN 34 #[.slice A a.length c,.slice B b.length d] w (.bool v):=by subst hv;exact Zxb F G w A B c d a b ha hb hl bC
theorem ZeP(F:Iw)(w:I0)(h:Hist)(H:h.lies F w):CN 11 #[h.val] w (.bool (Zb h)):=by
 obtain⟨txs,ords,A,c,B,d⟩:=h;have hft:=H.few;have iC:=H.fewo;simp only at hft iC;unfold Hist.val;have uH:=(Il No w).alloc (.cells #[.slice A txs.length c,.slice B ords.length d] 25)
 by_cases hmany:4096<txs.length
 ·have hv:=Qh (ZiJ (h:=⟨txs,ords,A,c,B,d⟩) hmany);go_enter Tryz.func11,Tryz.ntmps11;go_wp2;go_ret;exact⟨by rw[hv.out];rfl,uH⟩
 ·have sU:decide ((4096:Int)<(txs.length:Int))=false:=Qf (by omega);have bH0:=Qh (Im w 25 [.slice A txs.length c,.slice B ords.length d]);go_enter Tryz.func11,Tryz.ntmps11;go_wp2
  go_loopg [15] txs.length (fun gk i wr=>∃(k:Nat),k+gk=txs.length∧i= Qi k∧Hid ((List.range k).all (Zdf txs)=true)∧Upd No (w.alloc (.cells #[.slice A txs.length c,.slice B ords.length d] 25)) wr)
  case atStart=>exact⟨0,by omega,rfl,Qh rfl,Il No _⟩
  case round=>
   obtain⟨k,aI,rfl,ah,hu⟩:=hrel
   by_cases hlt:k<txs.length
   ·have H1:=H.upd (uH.trans hu) Qo;obtain⟨ad,aH,q0,q1,q2⟩:=H1.tx_at hlt;simp only at aH q0 q1 q2;have aZ:=H.tx txs[k] (Hg hlt);have eo:=H1.tx txs[k] (Hg hlt);obtain⟨x,hx⟩:=Qe (txs[k]);rw[hx]at q0 q1 q2 eo aZ;subst aH;have X:=Qh hx;have XL:=Qh eo;have fm:=Qh aZ;have b1:(0:Int)<=(k:Int):=Qn _;have b2:(k:Int)<(txs.length:Int):=by omega
    have uA:=(Il No wr).alloc (.cells #[Qi x.id,.bool x.done,.slice x.A x.ops.length x.c] 39);have bo:=Qh (Im wr 39 [Qi x.id,.bool x.done,.slice x.A x.ops.length x.c]);have bH:=Qh ((bH0.out.upd hu id).upd uA id);have UA:=Qh (hu.trans uA);clear hx eo aZ;obtain⟨E,g7⟩:=Qe (ZaT x.id x.ops);obtain⟨N,gQ⟩:=Qe (Za0 txs x.id x.ops);have hE:=Qh g7;have hN:=Qh gQ;have aC:=Qh (show Zdf txs k=(Ze0 txs k x.id&&E==0&&N) by rw[Zuz hlt X.out,g7,gQ]);clear g7 gQ
    by_cases hk0:k=0
    ·have nL:=Qh (show Ze0 txs k x.id=true by rw[hk0];rfl);have bJ:decide ((0:Int)<(k:Int))=false:=Qf (by omega);have oX:decide (0<k)=false:=Qf (by omega);clear hk0 H1
     by_cases hE1:E=0
     ·subst hE1
      cases N
      ·have hf:Hid (Zb ⟨txs,ords,some ad,c,B,d⟩=false):=Qh (ZeJ (k:=k) hlt (by rw[aC.out];simp));obtain⟨g0,g1⟩:=bH.out.c2;obtain⟨k0,k1,k2⟩:=bo.out.c3;go_wp2;refine wpS (fun w'=>Upd No (w.alloc (.cells #[.slice (some ad) txs.length c,.slice B ords.length d] 25)) w'∧w'.cell? ⟨w.heap.size,0,none⟩=some (.slice (some ad) txs.length c)∧w'.cell? ⟨w.heap.size,1,none⟩=some (.slice B ords.length d)∧w'.cell? ⟨wr.heap.size,0,none⟩=some (Qi x.id)∧w'.cell? ⟨wr.heap.size,1,none⟩=some (.bool x.done)∧w'.cell? ⟨wr.heap.size,2,none⟩=some (.slice x.A x.ops.length x.c)) ?_ fun jH=>?_
       ·(first|exact⟨UA.out.drew,g0,g1,k0,k1,k2⟩|exact⟨jH.1.trans hu3,hu3.keepNo jH.2.1,hu3.keepNo jH.2.2.1,hu3.keepNo jH.2.2.2.1,hu3.keepNo jH.2.2.2.2.1,hu3.keepNo jH.2.2.2.2.2⟩)
       (iterate 16 refine wpF ?_);refine wpZ 16 rfl fun K hK=>?_;go_simp
       (first
  |(go_at_call 31;refine Ck (Zew (F:=F) (v:=0) (HOps.upd fm.out.1 (uH.trans jH.1) Qo) XL.out.2.2.1 hE.out) fun w3 hu3=>?_))
       try (go_wp2_with fail)
       refine hK.out _ _ ?_ fun jH=>?_
       ·(first|exact⟨UA.out.drew,g0,g1,k0,k1,k2⟩|exact⟨jH.1.trans hu3,hu3.keepNo jH.2.1,hu3.keepNo jH.2.2.1,hu3.keepNo jH.2.2.2.1,hu3.keepNo jH.2.2.2.2.1,hu3.keepNo jH.2.2.2.2.2⟩)
       try simp only[Qa]
       (iterate 5 refine wpF ?_);refine wpZ 22 rfl fun K hK=>?_;go_simp
       (first
  |(go_at_call 32;refine Ck (Zgh (F:=F) (v:=false) (H.upd (uH.trans jH.1) Qo) (HOps.upd fm.out.1 (uH.trans jH.1) Qo) XL.out.2.2.1 hN.out) fun w3 hu3=>?_))
       try (go_wp2_with fail)
       refine hK.out _ _ ?_ fun jH=>?_
       ·(first|exact⟨UA.out.drew,g0,g1,k0,k1,k2⟩|exact⟨jH.1.trans hu3,hu3.keepNo jH.2.1,hu3.keepNo jH.2.2.1,hu3.keepNo jH.2.2.2.1,hu3.keepNo jH.2.2.2.2.1,hu3.keepNo jH.2.2.2.2.2⟩)
       try simp only[Qa]
       (iterate 2 refine wpF ?_);refine wpD (Ii ?_);have HU:=Qh jH.1;clear jH;go_wp2;go_ret;exact⟨by rw[hf.out];rfl,uH.trans HU.out⟩
      ·have HA:=Qh (Zc0 ah.out (by rw[aC.out,nL.out];rfl));obtain⟨g0,g1⟩:=bH.out.c2;obtain⟨k0,k1,k2⟩:=bo.out.c3;go_wp2;refine wpS (fun w'=>Upd No (w.alloc (.cells #[.slice (some ad) txs.length c,.slice B ords.length d] 25)) w'∧w'.cell? ⟨w.heap.size,0,none⟩=some (.slice (some ad) txs.length c)∧w'.cell? ⟨w.heap.size,1,none⟩=some (.slice B ords.length d)∧w'.cell? ⟨wr.heap.size,0,none⟩=some (Qi x.id)∧w'.cell? ⟨wr.heap.size,1,none⟩=some (.bool x.done)∧w'.cell? ⟨wr.heap.size,2,none⟩=some (.slice x.A x.ops.length x.c)) ?_ fun jH=>?_
       ·(first|exact⟨UA.out.drew,g0,g1,k0,k1,k2⟩|exact⟨jH.1.trans hu3,hu3.keepNo jH.2.1,hu3.keepNo jH.2.2.1,hu3.keepNo jH.2.2.2.1,hu3.keepNo jH.2.2.2.2.1,hu3.keepNo jH.2.2.2.2.2⟩)
       (iterate 16 refine wpF ?_);refine wpZ 16 rfl fun K hK=>?_;go_simp
       (first
  |(go_at_call 31;refine Ck (Zew (F:=F) (v:=0) (HOps.upd fm.out.1 (uH.trans jH.1) Qo) XL.out.2.2.1 hE.out) fun w3 hu3=>?_))
       try (go_wp2_with fail)
       refine hK.out _ _ ?_ fun jH=>?_
       ·(first|exact⟨UA.out.drew,g0,g1,k0,k1,k2⟩|exact⟨jH.1.trans hu3,hu3.keepNo jH.2.1,hu3.keepNo jH.2.2.1,hu3.keepNo jH.2.2.2.1,hu3.keepNo jH.2.2.2.2.1,hu3.keepNo jH.2.2.2.2.2⟩)
       try simp only[Qa]
       (iterate 5 refine wpF ?_);refine wpZ 22 rfl fun K hK=>?_;go_simp
       (first
  |(go_at_call 32;refine Ck (Zgh (F:=F) (v:=true) (H.upd (uH.trans jH.1) Qo) (HOps.upd fm.out.1 (uH.trans jH.1) Qo) XL.out.2.2.1 hN.out) fun w3 hu3=>?_))
       try (go_wp2_with fail)
       refine hK.out _ _ ?_ fun jH=>?_
       ·(first|exact⟨UA.out.drew,g0,g1,k0,k1,k2⟩|exact⟨jH.1.trans hu3,hu3.keepNo jH.2.1,hu3.keepNo jH.2.2.1,hu3.keepNo jH.2.2.2.1,hu3.keepNo jH.2.2.2.2.1,hu3.keepNo jH.2.2.2.2.2⟩)
       try simp only[Qa]
       (iterate 2 refine wpF ?_);refine wpD (Ii ?_);have HU:=Qh jH.1;clear jH;go_wp2;go_roundg (gk-1);exact⟨k+1,by omega,by go_num,Qh HA.out,HU.out⟩;omega
     ·have rU:(E != 0)=true:=by simpa using hE1
      have hf:Hid (Zb ⟨txs,ords,some ad,c,B,d⟩=false):=Qh (ZeJ (k:=k) hlt (by rw[aC.out,beq_eq_false_iff_ne.2 hE1];simp));clear hE1;obtain⟨g0,g1⟩:=bH.out.c2;obtain⟨k0,k1,k2⟩:=bo.out.c3;go_wp2;refine wpS (fun w'=>Upd No (w.alloc (.cells #[.slice (some ad) txs.length c,.slice B ords.length d] 25)) w'∧w'.cell? ⟨w.heap.size,0,none⟩=some (.slice (some ad) txs.length c)∧w'.cell? ⟨w.heap.size,1,none⟩=some (.slice B ords.length d)∧w'.cell? ⟨wr.heap.size,0,none⟩=some (Qi x.id)∧w'.cell? ⟨wr.heap.size,1,none⟩=some (.bool x.done)∧w'.cell? ⟨wr.heap.size,2,none⟩=some (.slice x.A x.ops.length x.c)) ?_ fun jH=>?_
      ·(first|exact⟨UA.out.drew,g0,g1,k0,k1,k2⟩|exact⟨jH.1.trans hu3,hu3.keepNo jH.2.1,hu3.keepNo jH.2.2.1,hu3.keepNo jH.2.2.2.1,hu3.keepNo jH.2.2.2.2.1,hu3.keepNo jH.2.2.2.2.2⟩)
      (iterate 16 refine wpF ?_);refine wpZ 16 rfl fun K hK=>?_;go_simp
      (first
  |(go_at_call 31;refine Ck (Zew (F:=F) (v:=E) (HOps.upd fm.out.1 (uH.trans jH.1) Qo) XL.out.2.2.1 hE.out) fun w3 hu3=>?_))
      try (go_wp2_with fail)
      refine hK.out _ _ ?_ fun jH=>?_
      ·(first|exact⟨UA.out.drew,g0,g1,k0,k1,k2⟩|exact⟨jH.1.trans hu3,hu3.keepNo jH.2.1,hu3.keepNo jH.2.2.1,hu3.keepNo jH.2.2.2.1,hu3.keepNo jH.2.2.2.2.1,hu3.keepNo jH.2.2.2.2.2⟩)
      try simp only[Qa]
      (iterate 5 refine wpF ?_);refine wpZ 22 rfl fun K hK=>?_;go_simp;refine hK.out _ _ ?_ fun jH=>?_
      ·exact jH
      try simp only[Qa]
      (iterate 2 refine wpF ?_);refine wpD (Ii ?_);have HU:=Qh jH.1;clear jH;go_wp2;go_ret;exact⟨by rw[hf.out];rfl,uH.trans HU.out⟩
    ·obtain⟨ad2,cq,p0,_,_⟩:=H1.tx_at (k:=k-1) (show k-1<txs.length by omega);simp only at cq p0
     cases cq
     obtain⟨y',gO⟩:∃y',txs[k-1]'(by omega)=y':=⟨_,rfl⟩;rw[gO]at p0
     replace p0:=uA.keepNo p0
     have lu:0<k:=by omega
     by_cases hordL:x.id<=y'.id
     ·have hf:Hid (Zb ⟨txs,ords,some ad,c,B,d⟩=false):=Qh (ZeJ (k:=k) hlt (by rw[aC.out,ZtR lu hlt gO x.id hordL];simp));obtain⟨y,hy⟩:=Qe y'.id;rw[hy]at p0 hordL;clear hy gO H1;have du:decide (x.id<=y)=true:=Qt hordL;have bJ:decide ((0:Int)<(k:Int))=true:=Qt (by omega);have oX:decide (0<k)=true:=Qt (by omega);have ap:IntKind.i64.wrap ((k:Int)-1)=(k:Int)-1:=IntWalk.i64_in _ (by omega);have bZ:(0:Int)<=(k:Int)-1:=by omega
      have fp:(1:Int)<=(k:Int):=by omega
      have cW:(k:Int)-1<(txs.length:Int):=by omega
      have jj:((k:Int)-1).toNat=k-1:=by omega
      obtain⟨g0,g1⟩:=bH.out.c2;obtain⟨k0,k1,k2⟩:=bo.out.c3;go_wp2;refine wpS (fun w'=>Upd No (w.alloc (.cells #[.slice (some ad) txs.length c,.slice B ords.length d] 25)) w'∧w'.cell? ⟨w.heap.size,0,none⟩=some (.slice (some ad) txs.length c)∧w'.cell? ⟨w.heap.size,1,none⟩=some (.slice B ords.length d)∧w'.cell? ⟨wr.heap.size,0,none⟩=some (Qi x.id)∧w'.cell? ⟨wr.heap.size,1,none⟩=some (.bool x.done)∧w'.cell? ⟨wr.heap.size,2,none⟩=some (.slice x.A x.ops.length x.c)∧w'.cell? (ad.add ((k-1)*3))=some (Qi y)) ?_ fun jH=>?_
      ·(first|exact⟨UA.out.drew,g0,g1,k0,k1,k2,p0⟩|exact⟨jH.1.trans hu3,hu3.keepNo jH.2.1,hu3.keepNo jH.2.2.1,hu3.keepNo jH.2.2.2.1,hu3.keepNo jH.2.2.2.2.1,hu3.keepNo jH.2.2.2.2.2.1,hu3.keepNo jH.2.2.2.2.2.2⟩)
      (iterate 16 refine wpF ?_);refine wpZ 16 rfl fun K hK=>?_;go_simp;refine hK.out _ _ ?_ fun jH=>?_
      ·exact jH
      try simp only[Qa]
      (iterate 5 refine wpF ?_);refine wpZ 22 rfl fun K hK=>?_;go_simp;refine hK.out _ _ ?_ fun jH=>?_
      ·exact jH
      try simp only[Qa]
      (iterate 2 refine wpF ?_);refine wpD (Ii ?_);have HU:=Qh jH.1;clear jH;go_wp2;go_ret;exact⟨by rw[hf.out];rfl,uH.trans HU.out⟩
     ·have nL:Hid (Ze0 txs k x.id=true):=Qh (ZrT lu hlt gO x.id (by omega));obtain⟨y,hy⟩:=Qe y'.id;rw[hy]at p0 hordL;clear hy gO H1;have du:decide (x.id<=y)=false:=Qf hordL;have bJ:decide ((0:Int)<(k:Int))=true:=Qt (by omega);have oX:decide (0<k)=true:=Qt (by omega);have ap:IntKind.i64.wrap ((k:Int)-1)=(k:Int)-1:=IntWalk.i64_in _ (by omega);have bZ:(0:Int)<=(k:Int)-1:=by omega
      have fp:(1:Int)<=(k:Int):=by omega
      have cW:(k:Int)-1<(txs.length:Int):=by omega
      have jj:((k:Int)-1).toNat=k-1:=by omega
      by_cases hE1:E=0
      ·subst hE1
       cases N
       ·have hf:Hid (Zb ⟨txs,ords,some ad,c,B,d⟩=false):=Qh (ZeJ (k:=k) hlt (by rw[aC.out];simp));obtain⟨g0,g1⟩:=bH.out.c2;obtain⟨k0,k1,k2⟩:=bo.out.c3;go_wp2;refine wpS (fun w'=>Upd No (w.alloc (.cells #[.slice (some ad) txs.length c,.slice B ords.length d] 25)) w'∧w'.cell? ⟨w.heap.size,0,none⟩=some (.slice (some ad) txs.length c)∧w'.cell? ⟨w.heap.size,1,none⟩=some (.slice B ords.length d)∧w'.cell? ⟨wr.heap.size,0,none⟩=some (Qi x.id)∧w'.cell? ⟨wr.heap.size,1,none⟩=some (.bool x.done)∧w'.cell? ⟨wr.heap.size,2,none⟩=some (.slice x.A x.ops.length x.c)∧w'.cell? (ad.add ((k-1)*3))=some (Qi y)) ?_ fun jH=>?_
        ·(first|exact⟨UA.out.drew,g0,g1,k0,k1,k2,p0⟩|exact⟨jH.1.trans hu3,hu3.keepNo jH.2.1,hu3.keepNo jH.2.2.1,hu3.keepNo jH.2.2.2.1,hu3.keepNo jH.2.2.2.2.1,hu3.keepNo jH.2.2.2.2.2.1,hu3.keepNo jH.2.2.2.2.2.2⟩)
        (iterate 16 refine wpF ?_);refine wpZ 16 rfl fun K hK=>?_;go_simp
        (first
  |(go_at_call 31;refine Ck (Zew (F:=F) (v:=0) (HOps.upd fm.out.1 (uH.trans jH.1) Qo) XL.out.2.2.1 hE.out) fun w3 hu3=>?_))
        try (go_wp2_with fail)
        refine hK.out _ _ ?_ fun jH=>?_
        ·(first|exact⟨UA.out.drew,g0,g1,k0,k1,k2,p0⟩|exact⟨jH.1.trans hu3,hu3.keepNo jH.2.1,hu3.keepNo jH.2.2.1,hu3.keepNo jH.2.2.2.1,hu3.keepNo jH.2.2.2.2.1,hu3.keepNo jH.2.2.2.2.2.1,hu3.keepNo jH.2.2.2.2.2.2⟩)
        try simp only[Qa]
        (iterate 5 refine wpF ?_);refine wpZ 22 rfl fun K hK=>?_;go_simp
        (first
  |(go_at_call 32;refine Ck (Zgh (F:=F) (v:=false) (H.upd (uH.trans jH.1) Qo) (HOps.upd fm.out.1 (uH.trans jH.1) Qo) XL.out.2.2.1 hN.out) fun w3 hu3=>?_))
        try (go_wp2_with fail)
        refine hK.out _ _ ?_ fun jH=>?_
        ·(first|exact⟨UA.out.drew,g0,g1,k0,k1,k2,p0⟩|exact⟨jH.1.trans hu3,hu3.keepNo jH.2.1,hu3.keepNo jH.2.2.1,hu3.keepNo jH.2.2.2.1,hu3.keepNo jH.2.2.2.2.1,hu3.keepNo jH.2.2.2.2.2.1,hu3.keepNo jH.2.2.2.2.2.2⟩)
        try simp only[Qa]
        (iterate 2 refine wpF ?_);refine wpD (Ii ?_);have HU:=Qh jH.1;clear jH;go_wp2;go_ret;exact⟨by rw[hf.out];rfl,uH.trans HU.out⟩
       ·have HA:=Qh (Zc0 ah.out (by rw[aC.out,nL.out];rfl));obtain⟨g0,g1⟩:=bH.out.c2;obtain⟨k0,k1,k2⟩:=bo.out.c3;go_wp2;refine wpS (fun w'=>Upd No (w.alloc (.cells #[.slice (some ad) txs.length c,.slice B ords.length d] 25)) w'∧w'.cell? ⟨w.heap.size,0,none⟩=some (.slice (some ad) txs.length c)∧w'.cell? ⟨w.heap.size,1,none⟩=some (.slice B ords.length d)∧w'.cell? ⟨wr.heap.size,0,none⟩=some (Qi x.id)∧w'.cell? ⟨wr.heap.size,1,none⟩=some (.bool x.done)∧w'.cell? ⟨wr.heap.size,2,none⟩=some (.slice x.A x.ops.length x.c)∧w'.cell? (ad.add ((k-1)*3))=some (Qi y)) ?_ fun jH=>?_
        ·(first|exact⟨UA.out.drew,g0,g1,k0,k1,k2,p0⟩|exact⟨jH.1.trans hu3,hu3.keepNo jH.2.1,hu3.keepNo jH.2.2.1,hu3.keepNo jH.2.2.2.1,hu3.keepNo jH.2.2.2.2.1,hu3.keepNo jH.2.2.2.2.2.1,hu3.keepNo jH.2.2.2.2.2.2⟩)
        (iterate 16 refine wpF ?_);refine wpZ 16 rfl fun K hK=>?_;go_simp
        (first
  |(go_at_call 31;refine Ck (Zew (F:=F) (v:=0) (HOps.upd fm.out.1 (uH.trans jH.1) Qo) XL.out.2.2.1 hE.out) fun w3 hu3=>?_))
        try (go_wp2_with fail)
        refine hK.out _ _ ?_ fun jH=>?_
        ·(first|exact⟨UA.out.drew,g0,g1,k0,k1,k2,p0⟩|exact⟨jH.1.trans hu3,hu3.keepNo jH.2.1,hu3.keepNo jH.2.2.1,hu3.keepNo jH.2.2.2.1,hu3.keepNo jH.2.2.2.2.1,hu3.keepNo jH.2.2.2.2.2.1,hu3.keepNo jH.2.2.2.2.2.2⟩)
        try simp only[Qa]
        (iterate 5 refine wpF ?_);refine wpZ 22 rfl fun K hK=>?_;go_simp
        (first
  |(go_at_call 32;refine Ck (Zgh (F:=F) (v:=true) (H.upd (uH.trans jH.1) Qo) (HOps.upd fm.out.1 (uH.trans jH.1) Qo) XL.out.2.2.1 hN.out) fun w3 hu3=>?_))
        try (go_wp2_with fail)
        refine hK.out _ _ ?_ fun jH=>?_
        ·(first|exact⟨UA.out.drew,g0,g1,k0,k1,k2,p0⟩|exact⟨jH.1.trans hu3,hu3.keepNo jH.2.1,hu3.keepNo jH.2.2.1,hu3.keepNo jH.2.2.2.1,hu3.keepNo jH.2.2.2.2.1,hu3.keepNo jH.2.2.2.2.2.1,hu3.keepNo jH.2.2.2.2.2.2⟩)
        try simp only[Qa]
        (iterate 2 refine wpF ?_);refine wpD (Ii ?_);have HU:=Qh jH.1;clear jH;go_wp2;go_roundg (gk-1);exact⟨k+1,by omega,by go_num,Qh HA.out,HU.out⟩;omega
      ·have rU:(E != 0)=true:=by simpa using hE1
       have hf:Hid (Zb ⟨txs,ords,some ad,c,B,d⟩=false):=Qh (ZeJ (k:=k) hlt (by rw[aC.out,beq_eq_false_iff_ne.2 hE1];simp));clear hE1;obtain⟨g0,g1⟩:=bH.out.c2;obtain⟨k0,k1,k2⟩:=bo.out.c3;go_wp2;refine wpS (fun w'=>Upd No (w.alloc (.cells #[.slice (some ad) txs.length c,.slice B ords.length d] 25)) w'∧w'.cell? ⟨w.heap.size,0,none⟩=some (.slice (some ad) txs.length c)∧w'.cell? ⟨w.heap.size,1,none⟩=some (.slice B ords.length d)∧w'.cell? ⟨wr.heap.size,0,none⟩=some (Qi x.id)∧w'.cell? ⟨wr.heap.size,1,none⟩=some (.bool x.done)∧w'.cell? ⟨wr.heap.size,2,none⟩=some (.slice x.A x.ops.length x.c)∧w'.cell? (ad.add ((k-1)*3))=some (Qi y)) ?_ fun jH=>?_
       ·(first|exact⟨UA.out.drew,g0,g1,k0,k1,k2,p0⟩|exact⟨jH.1.trans hu3,hu3.keepNo jH.2.1,hu3.keepNo jH.2.2.1,hu3.keepNo jH.2.2.2.1,hu3.keepNo jH.2.2.2.2.1,hu3.keepNo jH.2.2.2.2.2.1,hu3.keepNo jH.2.2.2.2.2.2⟩)
       (iterate 16 refine wpF ?_);refine wpZ 16 rfl fun K hK=>?_;go_simp
       (first
  |(go_at_call 31;refine Ck (Zew (F:=F) (v:=E) (HOps.upd fm.out.1 (uH.trans jH.1) Qo) XL.out.2.2.1 hE.out) fun w3 hu3=>?_))
       try (go_wp2_with fail)
       refine hK.out _ _ ?_ fun jH=>?_
       ·(first|exact⟨UA.out.drew,g0,g1,k0,k1,k2,p0⟩|exact⟨jH.1.trans hu3,hu3.keepNo jH.2.1,hu3.keepNo jH.2.2.1,hu3.keepNo jH.2.2.2.1,hu3.keepNo jH.2.2.2.2.1,hu3.keepNo jH.2.2.2.2.2.1,hu3.keepNo jH.2.2.2.2.2.2⟩)
       try simp only[Qa]
       (iterate 5 refine wpF ?_);refine wpZ 22 rfl fun K hK=>?_;go_simp;refine hK.out _ _ ?_ fun jH=>?_
       ·exact jH
       try simp only[Qa]
       (iterate 2 refine wpF ?_);refine wpD (Ii ?_);have HU:=Qh jH.1;clear jH;go_wp2;go_ret;exact⟨by rw[hf.out];rfl,uH.trans HU.out⟩
   ·obtain rfl:k=txs.length:=by omega
    have jL:=Qh ah.out;have jm:=bH0.out.upd hu id;obtain⟨g0',g1'⟩:=jm.c2;have HW:=Qh (Zs4 F _ ⟨txs,ords,A,c,B,d⟩ (H.upd (uH.trans hu) Qo) (by show txs.length<=4096;omega));clear jm;go_wp2_with fail;refine(HW.out).mono ?_;rintro e w1 ⟨b,m,rfl,aX,aS,hmk,tQ,hu1⟩;have bH1:=Qh ((bH0.out.upd hu id).upd hu1 id);have U1:=Qh ((uH.trans hu).trans hu1);have nU:=ZhO Tryz.underlying71 tQ.is;have ej:m.length=(ZE txs []).length:=by rw[<-hmk,Hw]
    have g1:=bH1.out.cell 1;simp only[Qz,Qs]at g1;have zB:=Qh tQ;have ya:=fun ty=>nU ty
    clear g0' g1' tQ hmk nU hu1 ah
    by_cases hle:(ZE txs []).length=ords.length
    ·have hne:((m.length:Int) != (ords.length:Int))=false:=by rw[ej,hle];simp
     have oD:=Qh (show((ZE (Hist.txs ⟨txs,ords,A,c,B,d⟩) []).length==(Hist.ords ⟨txs,ords,A,c,B,d⟩).length)=true by show((ZE txs []).length==ords.length)=true;rw[hle];simp);clear ej hle;go_wp2;clear ya hne
     go_loopg [57] ords.length (fun gk i wr=>∃(k:Nat),k+gk=ords.length∧i= Qi k∧Hid ((List.range k).all (Zb4 txs ords)=true)∧Upd No w1 wr)
     case atStart=>exact⟨0,by omega,rfl,Qh rfl,Il No _⟩
     case round=>
      obtain⟨k,aI,rfl,jO,hu2⟩:=hrel
      by_cases hlt:k<ords.length
      ·have H1:=H.upd (U1.out.trans hu2) Qo;obtain⟨ad,aH,q0,q1⟩:=H1.ord_at hlt;simp only at aH q0 q1;have aZ:=H.ord ords[k] (Hg hlt);obtain⟨x,hx⟩:=Qe (ords[k]);rw[hx]at q0 q1 aZ;subst aH;have X:=Qh hx;have fm:=Qh aZ;have b1:(0:Int)<=(k:Int):=Qn _;have b2:(k:Int)<(ords.length:Int):=by omega
       have uA:=(Il No wr).alloc (.cells #[Qi x.key,.slice x.A x.txs.length x.c] 68);have bo:=Qh (Im wr 68 [Qi x.key,.slice x.A x.txs.length x.c]);have bH:=Qh ((bH1.out.upd hu2 id).upd uA id);have UA:=Qh (hu2.trans uA);obtain⟨Ar,cr,aK,how⟩:=zB.out.row x.key;have e1:=ZP ZdN Tryz.underlying71 ZpM (zB.out.is.upd UA.out.drew id) x.key;rw[aK]at e1;have tH:=Qh (Ints.of_own how);have dV:=Qh (show(Zj txs x.key).length<=17592186044415 from Nat.le_trans (Zit txs x.key) (by omega));clear hx aZ aK how;obtain⟨N,gQ⟩:=Qe (ZiM x.txs (Zj txs x.key));have hN:=Qh gQ;have aC:=Qh (show Zb4 txs ords k=(ZeZ ords k x.key&& !x.txs.isEmpty&&N) by rw[ZsL hlt X.out,<-ZsE,gQ]);clear gQ
       by_cases hk0:k=0
       ·have nL:=Qh (show ZeZ ords k x.key=true by rw[hk0];rfl);have bJ:decide ((0:Int)<(k:Int))=false:=Qf (by omega);have oX:decide (0<k)=false:=Qf (by omega);clear hk0 H1
        by_cases hE1:x.txs.length=0
        ·have g7:x.txs=[]:=Gd hE1;have hf:Hid (Zb ⟨txs,ords,A,c,some ad,d⟩=false):=Qh (Zea (k:=k) hlt (by rw[aC.out,g7];simp));have rU:((x.txs.length:Int)==0)=true:=by rw[beq_iff_eq];omega
         clear hE1 g7;have g1:=bH.out.cell 1;obtain⟨k0,k1⟩:=bo.out.c2;simp only[Qz,Qs]at g1;go_wp2;refine wpS (fun w'=>Upd No w1 w'∧w'.cell? ⟨w.heap.size,1,none⟩=some (.slice (some ad) ords.length d)∧w'.cell? ⟨wr.heap.size,0,none⟩=some (Qi x.key)∧w'.cell? ⟨wr.heap.size,1,none⟩=some (.slice x.A x.txs.length x.c)) ?_ fun jH=>?_
         ·(first|exact⟨UA.out.drew,g1,k0,k1⟩|exact⟨jH.1.trans hu3,hu3.keepNo jH.2.1,hu3.keepNo jH.2.2.1,hu3.keepNo jH.2.2.2⟩)
         (iterate 26 refine wpF ?_);refine wpZ 26 rfl fun K hK=>?_;go_simp;refine hK.out _ _ ?_ fun jH=>?_
         ·exact jH
         try simp only[Qa]
         refine wpZ 27 rfl fun K hK=>?_;go_simp;refine hK.out _ _ ?_ fun jH=>?_
         ·exact jH
         try simp only[Qa]
         (iterate 2 refine wpF ?_);refine wpD (Ii ?_);have HU:=Qh jH.1;clear jH;go_wp2;go_ret;exact⟨by rw[hf.out];rfl,U1.out.trans HU.out⟩
        ·have g7:x.txs.isEmpty=false:=by
          cases hh:x.txs with
          |nil=>rw[hh]at hE1;exact absurd rfl hE1
          |cons a l=>rfl
         have rU:((x.txs.length:Int)==0)=false:=by rw[beq_eq_false_iff_ne];omega
         have uP:=Qh g7;clear hE1 g7
         cases N
         ·have hf:Hid (Zb ⟨txs,ords,A,c,some ad,d⟩=false):=Qh (Zea (k:=k) hlt (by rw[aC.out];simp));have g1:=bH.out.cell 1;obtain⟨k0,k1⟩:=bo.out.c2;simp only[Qz,Qs]at g1;go_wp2;refine wpS (fun w'=>Upd No w1 w'∧w'.cell? ⟨w.heap.size,1,none⟩=some (.slice (some ad) ords.length d)∧w'.cell? ⟨wr.heap.size,0,none⟩=some (Qi x.key)∧w'.cell? ⟨wr.heap.size,1,none⟩=some (.slice x.A x.txs.length x.c)) ?_ fun jH=>?_
          ·(first|exact⟨UA.out.drew,g1,k0,k1⟩|exact⟨jH.1.trans hu3,hu3.keepNo jH.2.1,hu3.keepNo jH.2.2.1,hu3.keepNo jH.2.2.2⟩)
          (iterate 26 refine wpF ?_);refine wpZ 26 rfl fun K hK=>?_;go_simp;refine hK.out _ _ ?_ fun jH=>?_
          ·(first|exact⟨UA.out.drew,g1,k0,k1⟩|exact⟨jH.1.trans hu3,hu3.keepNo jH.2.1,hu3.keepNo jH.2.2.1,hu3.keepNo jH.2.2.2⟩)
          try simp only[Qa]
          refine wpZ 27 rfl fun K hK=>?_;go_simp
          (first
  |(go_at_call 34;refine Ck (ZiQ (v:=false) (fm.out.1.upd (U1.out.trans jH.1) Qo) (tH.out.upd jH.1 Qo) fm.out.2.2.1 dV.out hN.out) fun w3 hu3=>?_))
          try (go_wp2_with fail)
          refine hK.out _ _ ?_ fun jH=>?_
          ·(first|exact⟨UA.out.drew,g1,k0,k1⟩|exact⟨jH.1.trans hu3,hu3.keepNo jH.2.1,hu3.keepNo jH.2.2.1,hu3.keepNo jH.2.2.2⟩)
          try simp only[Qa]
          (iterate 2 refine wpF ?_);refine wpD (Ii ?_);have HU:=Qh jH.1;clear jH;go_wp2;go_ret;exact⟨by rw[hf.out];rfl,U1.out.trans HU.out⟩
         ·have HA:=Qh (Zc0 jO.out (by rw[aC.out,nL.out,uP.out];rfl));have g1:=bH.out.cell 1;obtain⟨k0,k1⟩:=bo.out.c2;simp only[Qz,Qs]at g1;go_wp2;refine wpS (fun w'=>Upd No w1 w'∧w'.cell? ⟨w.heap.size,1,none⟩=some (.slice (some ad) ords.length d)∧w'.cell? ⟨wr.heap.size,0,none⟩=some (Qi x.key)∧w'.cell? ⟨wr.heap.size,1,none⟩=some (.slice x.A x.txs.length x.c)) ?_ fun jH=>?_
          ·(first|exact⟨UA.out.drew,g1,k0,k1⟩|exact⟨jH.1.trans hu3,hu3.keepNo jH.2.1,hu3.keepNo jH.2.2.1,hu3.keepNo jH.2.2.2⟩)
          (iterate 26 refine wpF ?_);refine wpZ 26 rfl fun K hK=>?_;go_simp;refine hK.out _ _ ?_ fun jH=>?_
          ·(first|exact⟨UA.out.drew,g1,k0,k1⟩|exact⟨jH.1.trans hu3,hu3.keepNo jH.2.1,hu3.keepNo jH.2.2.1,hu3.keepNo jH.2.2.2⟩)
          try simp only[Qa]
          refine wpZ 27 rfl fun K hK=>?_;go_simp
          (first
  |(go_at_call 34;refine Ck (ZiQ (v:=true) (fm.out.1.upd (U1.out.trans jH.1) Qo) (tH.out.upd jH.1 Qo) fm.out.2.2.1 dV.out hN.out) fun w3 hu3=>?_))
          try (go_wp2_with fail)
          refine hK.out _ _ ?_ fun jH=>?_
          ·(first|exact⟨UA.out.drew,g1,k0,k1⟩|exact⟨jH.1.trans hu3,hu3.keepNo jH.2.1,hu3.keepNo jH.2.2.1,hu3.keepNo jH.2.2.2⟩)
          try simp only[Qa]
          (iterate 2 refine wpF ?_);refine wpD (Ii ?_);have HU:=Qh jH.1;clear jH;go_wp2;go_roundg (gk-1);exact⟨k+1,by omega,by go_num,Qh HA.out,HU.out⟩;omega
       ·obtain⟨ad2,cq,p0,_⟩:=H1.ord_at (k:=k-1) (show k-1<ords.length by omega);simp only at cq p0
        cases cq
        obtain⟨y',gO⟩:∃y',ords[k-1]'(by omega)=y':=⟨_,rfl⟩;rw[gO]at p0
        replace p0:=uA.keepNo p0
        have lu:0<k:=by omega
        by_cases hordL:x.key<=y'.key
        ·have hf:Hid (Zb ⟨txs,ords,A,c,some ad,d⟩=false):=Qh (Zea (k:=k) hlt (by rw[aC.out,ZrU lu hlt gO x.key hordL];simp));obtain⟨y,hy⟩:=Qe y'.key;rw[hy]at p0 hordL;clear hy gO H1;have du:decide (x.key<=y)=true:=Qt hordL;have bJ:decide ((0:Int)<(k:Int))=true:=Qt (by omega);have oX:decide (0<k)=true:=Qt (by omega);have ap:IntKind.i64.wrap ((k:Int)-1)=(k:Int)-1:=IntWalk.i64_in _ (by omega);have bZ:(0:Int)<=(k:Int)-1:=by omega
         have fp:(1:Int)<=(k:Int):=by omega
         have cW:(k:Int)-1<(ords.length:Int):=by omega
         have jj:((k:Int)-1).toNat=k-1:=by omega
         have g1:=bH.out.cell 1;obtain⟨k0,k1⟩:=bo.out.c2;simp only[Qz,Qs]at g1;go_wp2;refine wpS (fun w'=>Upd No w1 w'∧w'.cell? ⟨w.heap.size,1,none⟩=some (.slice (some ad) ords.length d)∧w'.cell? ⟨wr.heap.size,0,none⟩=some (Qi x.key)∧w'.cell? ⟨wr.heap.size,1,none⟩=some (.slice x.A x.txs.length x.c)∧w'.cell? (ad.add ((k-1)*2))=some (Qi y)) ?_ fun jH=>?_
         ·(first|exact⟨UA.out.drew,g1,k0,k1,p0⟩|exact⟨jH.1.trans hu3,hu3.keepNo jH.2.1,hu3.keepNo jH.2.2.1,hu3.keepNo jH.2.2.2.1,hu3.keepNo jH.2.2.2.2⟩)
         (iterate 26 refine wpF ?_);refine wpZ 26 rfl fun K hK=>?_;go_simp;refine hK.out _ _ ?_ fun jH=>?_
         ·exact jH
         try simp only[Qa]
         refine wpZ 27 rfl fun K hK=>?_;go_simp;refine hK.out _ _ ?_ fun jH=>?_
         ·exact jH
         try simp only[Qa]
         (iterate 2 refine wpF ?_);refine wpD (Ii ?_);have HU:=Qh jH.1;clear jH;go_wp2;go_ret;exact⟨by rw[hf.out];rfl,U1.out.trans HU.out⟩
        ·have nL:Hid (ZeZ ords k x.key=true):=Qh (ZpD lu hlt gO x.key (by omega));obtain⟨y,hy⟩:=Qe y'.key;rw[hy]at p0 hordL;clear hy gO H1;have du:decide (x.key<=y)=false:=Qf hordL;have bJ:decide ((0:Int)<(k:Int))=true:=Qt (by omega);have oX:decide (0<k)=true:=Qt (by omega);have ap:IntKind.i64.wrap ((k:Int)-1)=(k:Int)-1:=IntWalk.i64_in _ (by omega);have bZ:(0:Int)<=(k:Int)-1:=by omega
         have fp:(1:Int)<=(k:Int):=by omega
         have cW:(k:Int)-1<(ords.length:Int):=by omega
         have jj:((k:Int)-1).toNat=k-1:=by omega
         by_cases hE1:x.txs.length=0
         ·have g7:x.txs=[]:=Gd hE1;have hf:Hid (Zb ⟨txs,ords,A,c,some ad,d⟩=false):=Qh (Zea (k:=k) hlt (by rw[aC.out,g7];simp));have rU:((x.txs.length:Int)==0)=true:=by rw[beq_iff_eq];omega
          clear hE1 g7;have g1:=bH.out.cell 1;obtain⟨k0,k1⟩:=bo.out.c2;simp only[Qz,Qs]at g1;go_wp2;refine wpS (fun w'=>Upd No w1 w'∧w'.cell? ⟨w.heap.size,1,none⟩=some (.slice (some ad) ords.length d)∧w'.cell? ⟨wr.heap.size,0,none⟩=some (Qi x.key)∧w'.cell? ⟨wr.heap.size,1,none⟩=some (.slice x.A x.txs.length x.c)∧w'.cell? (ad.add ((k-1)*2))=some (Qi y)) ?_ fun jH=>?_
          ·(first|exact⟨UA.out.drew,g1,k0,k1,p0⟩|exact⟨jH.1.trans hu3,hu3.keepNo jH.2.1,hu3.keepNo jH.2.2.1,hu3.keepNo jH.2.2.2.1,hu3.keepNo jH.2.2.2.2⟩)
          (iterate 26 refine wpF ?_);refine wpZ 26 rfl fun K hK=>?_;go_simp;refine hK.out _ _ ?_ fun jH=>?_
          ·exact jH
          try simp only[Qa]
          refine wpZ 27 rfl fun K hK=>?_;go_simp;refine hK.out _ _ ?_ fun jH=>?_
          ·exact jH
          try simp only[Qa]
          (iterate 2 refine wpF ?_);refine wpD (Ii ?_);have HU:=Qh jH.1;clear jH;go_wp2;go_ret;exact⟨by rw[hf.out];rfl,U1.out.trans HU.out⟩
         ·have g7:x.txs.isEmpty=false:=by
           cases hh:x.txs with
           |nil=>rw[hh]at hE1;exact absurd rfl hE1
           |cons a l=>rfl
          have rU:((x.txs.length:Int)==0)=false:=by rw[beq_eq_false_iff_ne];omega
          have uP:=Qh g7;clear hE1 g7
          cases N
          ·have hf:Hid (Zb ⟨txs,ords,A,c,some ad,d⟩=false):=Qh (Zea (k:=k) hlt (by rw[aC.out];simp));have g1:=bH.out.cell 1;obtain⟨k0,k1⟩:=bo.out.c2;simp only[Qz,Qs]at g1;go_wp2;refine wpS (fun w'=>Upd No w1 w'∧w'.cell? ⟨w.heap.size,1,none⟩=some (.slice (some ad) ords.length d)∧w'.cell? ⟨wr.heap.size,0,none⟩=some (Qi x.key)∧w'.cell? ⟨wr.heap.size,1,none⟩=some (.slice x.A x.txs.length x.c)∧w'.cell? (ad.add ((k-1)*2))=some (Qi y)) ?_ fun jH=>?_
           ·(first|exact⟨UA.out.drew,g1,k0,k1,p0⟩|exact⟨jH.1.trans hu3,hu3.keepNo jH.2.1,hu3.keepNo jH.2.2.1,hu3.keepNo jH.2.2.2.1,hu3.keepNo jH.2.2.2.2⟩)
           (iterate 26 refine wpF ?_);refine wpZ 26 rfl fun K hK=>?_;go_simp;refine hK.out _ _ ?_ fun jH=>?_
           ·(first|exact⟨UA.out.drew,g1,k0,k1,p0⟩|exact⟨jH.1.trans hu3,hu3.keepNo jH.2.1,hu3.keepNo jH.2.2.1,hu3.keepNo jH.2.2.2.1,hu3.keepNo jH.2.2.2.2⟩)
           try simp only[Qa]
           refine wpZ 27 rfl fun K hK=>?_;go_simp
           (first
  |(go_at_call 34;refine Ck (ZiQ (v:=false) (fm.out.1.upd (U1.out.trans jH.1) Qo) (tH.out.upd jH.1 Qo) fm.out.2.2.1 dV.out hN.out) fun w3 hu3=>?_))
           try (go_wp2_with fail)
           refine hK.out _ _ ?_ fun jH=>?_
           ·(first|exact⟨UA.out.drew,g1,k0,k1,p0⟩|exact⟨jH.1.trans hu3,hu3.keepNo jH.2.1,hu3.keepNo jH.2.2.1,hu3.keepNo jH.2.2.2.1,hu3.keepNo jH.2.2.2.2⟩)
           try simp only[Qa]
           (iterate 2 refine wpF ?_);refine wpD (Ii ?_);have HU:=Qh jH.1;clear jH;go_wp2;go_ret;exact⟨by rw[hf.out];rfl,U1.out.trans HU.out⟩
          ·have HA:=Qh (Zc0 jO.out (by rw[aC.out,nL.out,uP.out];rfl));have g1:=bH.out.cell 1;obtain⟨k0,k1⟩:=bo.out.c2;simp only[Qz,Qs]at g1;go_wp2;refine wpS (fun w'=>Upd No w1 w'∧w'.cell? ⟨w.heap.size,1,none⟩=some (.slice (some ad) ords.length d)∧w'.cell? ⟨wr.heap.size,0,none⟩=some (Qi x.key)∧w'.cell? ⟨wr.heap.size,1,none⟩=some (.slice x.A x.txs.length x.c)∧w'.cell? (ad.add ((k-1)*2))=some (Qi y)) ?_ fun jH=>?_
           ·(first|exact⟨UA.out.drew,g1,k0,k1,p0⟩|exact⟨jH.1.trans hu3,hu3.keepNo jH.2.1,hu3.keepNo jH.2.2.1,hu3.keepNo jH.2.2.2.1,hu3.keepNo jH.2.2.2.2⟩)
           (iterate 26 refine wpF ?_);refine wpZ 26 rfl fun K hK=>?_;go_simp;refine hK.out _ _ ?_ fun jH=>?_
           ·(first|exact⟨UA.out.drew,g1,k0,k1,p0⟩|exact⟨jH.1.trans hu3,hu3.keepNo jH.2.1,hu3.keepNo jH.2.2.1,hu3.keepNo jH.2.2.2.1,hu3.keepNo jH.2.2.2.2⟩)
           try simp only[Qa]
           refine wpZ 27 rfl fun K hK=>?_;go_simp
           (first
  |(go_at_call 34;refine Ck (ZiQ (v:=true) (fm.out.1.upd (U1.out.trans jH.1) Qo) (tH.out.upd jH.1 Qo) fm.out.2.2.1 dV.out hN.out) fun w3 hu3=>?_))
           try (go_wp2_with fail)
           refine hK.out _ _ ?_ fun jH=>?_
           ·(first|exact⟨UA.out.drew,g1,k0,k1,p0⟩|exact⟨jH.1.trans hu3,hu3.keepNo jH.2.1,hu3.keepNo jH.2.2.1,hu3.keepNo jH.2.2.2.1,hu3.keepNo jH.2.2.2.2⟩)
           try simp only[Qa]
           (iterate 2 refine wpF ?_);refine wpD (Ii ?_);have HU:=Qh jH.1;clear jH;go_wp2;go_roundg (gk-1);exact⟨k+1,by omega,by go_num,Qh HA.out,HU.out⟩;omega
      ·obtain rfl:k=ords.length:=by omega
       have hv:=Qh (Zkg (h:=⟨txs,ords,A,c,B,d⟩) (by show txs.length<=4096;omega) jL.out oD.out jO.out);go_wp2;go_ret;exact⟨by rw[hv.out];rfl,U1.out.trans hu2⟩
    ·have hne:((m.length:Int) != (ords.length:Int))=true:=by rw[ej,bne_iff_ne];omega
     have hf:Hid (Zb ⟨txs,ords,A,c,B,d⟩=false):=Qh (Zqk (by show((ZE txs []).length==ords.length)=false;rw[beq_eq_false_iff_ne];exact hle));clear ej hle;go_wp2;go_ret;exact⟨by rw[hf.out];rfl,U1.out⟩
/- What the document tells of histories,in plain words;it is what the program tells. -/
def ZoO(a b:Iv):Bool:=a.length==b.length&&a.all fun x=>a.count x==b.count x
theorem Zgx:∀(a b:Iv),a.length=b.length->(∀x∈a,a.count x=b.count x)->a.Perm b
 |[],b,hl,_=>by
  have:b=[]:=Gd (by simpa using hl.symm);subst this;exact List.Perm.refl _
 |x::a,b,hl,h=>by
  have hx:=h x (Gv ..)
  have xv:x∈b:=by
   rw[List.count_cons_self]at hx;exact List.count_pos_iff.1 (by omega)
  have hp:=List.perm_cons_erase xv;refine((Zgx a (b.erase x) ?_ fun y hy=>?_).cons x).trans hp.symm
  ·have:=hp.length_eq;simp only[G1]at*;omega
  ·have h1:=h y (Gk _ hy);rw[hp.count_eq]at h1;simp only[List.count_cons]at h1;omega
theorem ZlZ(a b:Iv):ZoO a b=(Zbu a==Zbu b):=by
 rw[Bool.eq_iff_iff];unfold ZoO;simp only[Hj,beq_iff_eq,Hd]
 constructor
 ·rintro⟨h1,h2⟩;have hp:=Zgx a b h1 h2;exact ZgD (((Zat a).trans hp).trans (Zat b).symm) (Zdg a) (Zdg b)
 ·intro h;have hp:a.Perm b:=((Zat a).symm.trans (by rw[h];exact Zat b));exact⟨hp.length_eq,fun x _=>hp.count_eq x⟩
/-! keys -/
theorem Zmh(a:Int):∀(l s:Iv),a∈Zcr s l↔a∈s∨a∈l
 |[],s=>by simp[Zcr]
 |k::l,s=>by
  show a∈Zcr (if k∈s then s else s++[k]) l↔_
  rw[Zmh a l]
  by_cases h:k∈s
  ·rw[if_pos h,Ie];grind
  ·rw[if_neg h,Ie,Ib,Gq];grind
theorem Zjz:∀(l s:Iv),s.Nodup->(Zcr s l).Nodup
 |[],_,h=>h
 |k::l,s,h=>by
  show(Zcr (if k∈s then s else s++[k]) l).Nodup
  refine Zjz l _ ?_
  split
  ·exact h
  ·rename_i hk
   rw[List.nodup_append];exact⟨h,by simp,fun a ha b hb=>by rw[Gq]at hb;subst hb;exact fun e=>hk (e▸ha)⟩
theorem Ze6(a:Int):∀(l:List HTx) (s:Iv),a∈ZE l s↔a∈s∨∃t∈l,t.done=true∧a∈ZbB t.ops
 |[],s=>by simp[ZE]
 |t::l,s=>by
  show a∈ZE l (if t.done then Zcr s (ZbB t.ops) else s)↔_
  rw[Ze6 a l]
  by_cases h:t.done=true
  ·rw[if_pos h,Zmh];simp only[Ie,exists_eq_or_imp,h];grind
  ·rw[if_neg h];simp only[Ie,exists_eq_or_imp,h];grind
theorem Zfh:∀(l:List HTx) (s:Iv),s.Nodup->(ZE l s).Nodup
 |[],_,h=>h
 |t::l,s,h=>by
  show(ZE l (if t.done then Zcr s (ZbB t.ops) else s)).Nodup
  refine Zfh l _ ?_
  split
  ·exact Zjz _ _ h
  ·exact h
theorem ZoI{l:Iv}(h:l.Pairwise (·<·)):l.Nodup:=h.imp fun h=>Int.ne_of_lt h
/-! is a history right,by the document -/
theorem ZnG{l:Iv}(h:∀i,i+1<l.length->l.getD i 0<l.getD (i+1) 0):l.Pairwise (·<·):=by
 have key:∀d i:Nat,i+d+1<l.length->l.getD i 0<l.getD (i+d+1) 0:=by
  intro d
  induction d with
  |zero=>intro i hi;exact h i hi
  |succ d ih=>
   intro i hi;have h1:=ih i (by omega);have h2:=h (i+d+1) (by omega);exact Int.lt_trans h1 h2
 rw[List.pairwise_iff_getElem];intro i j hi hj hij;have:=key (j-i-1) i (by omega);rw[show i+(j-i-1)+1=j by omega]at this
 simpa[List.getD_eq_getElem?_getD,Qg hi,Qg hj]using this
theorem ZhV{txs:List HTx}{ords:List HOrd}{i:Nat}(hi:i<ords.length):Zb4 txs ords i=true↔(∀j,j+1=i->(ords.map (·.key)).getD j 0<ords[i].key)∧ords[i].txs≠[]∧ZoO ords[i].txs (Zj txs ords[i].key)=true:=by
 unfold Zb4;rw[Qg hi,ZlZ]
 cases i with
 |zero=>simp
 |succ j=>
  have hj:j<ords.length:=by omega
  simp only[Qg hj];simp[List.getD_eq_getElem?_getD,Qg hj]
  grind
