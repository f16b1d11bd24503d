/- The keys that a transaction writes. -/
import Derived.Test.YtbefgiboikfojaaGreatRcbs
import Derived.Test.YtbefgiboikfojaaGreatRcaw
namespace Go.Proofs.YtbefgiboikfojaaGreat
open Go.RowKit
set_option linter.unusedVariables false
set_option linter.unusedSimpArgs false
set_option maxRecDepth 100000
set_option maxHeartbeats 8000000
theorem Zod{l:Gu}{k:Nat}{x:HOp}(hk:k<l.length)(hx:l[k]=x)(hr:x.read=false):ZaK (l.take (k+1)) (fun o=> !o.read)=ZaK (l.take k) (fun o=> !o.read)++[x.key]:=by
 subst hx;unfold ZaK;rw[Es hk,List.filter_append,F4,List.filter_cons_of_pos (by rw[hr];rfl)];rfl
theorem ZpZ{l:Gu}{k:Nat}{x:HOp}(hk:k<l.length)(hx:l[k]=x)(hr:x.read=true):ZaK (l.take (k+1)) (fun o=> !o.read)=ZaK (l.take k) (fun o=> !o.read):=by
 subst hx;unfold ZaK;rw[Es hk,List.filter_append,F4,List.filter_cons_of_neg (by rw[hr];decide)];simp
theorem Zp0(l:Gu)(f:HOp->Bool):(ZaK l f).length<=l.length:=by
 unfold ZaK;rw[F6];exact E3 _ _
theorem Zvw(F:Gt)(w:Gy)(i0:Int)(dn:Bool)(A:OA)(c:Nat)(l:Gu)(h:HOps F w A l)(hl:Zp l.length):
  Calls Tryz.prog 191 #[.agg #[Qi i0,.bool dn,.slice A l.length c],.func (.func 192) #[] #[]] w (Zfn w (Zaz l)):=by
 unfold Zp at hl;go_enter Tryz.func191,Tryz.ntmps191;go_wp2
 go_loopg [5,11] l.length (fun gk s i wr=>∃(k:Nat) (A5:OA) (c5:Nat) (xs:Gv),k+gk=l.length∧i= Qi k∧s= .slice A5 xs.length c5∧Hid (xs=ZaK (l.take k) fun o=> !o.read)∧xs.length<=k∧
  wr.ownsRow w.heap.size 3 1 (.slice A5 xs.length c5) xs.length (xs.map (Value.int .i64))∧Upd No w wr)
 case atStart=>exact⟨0,none,0,[],by omega,rfl,rfl,Qh (by simp[ZaK]),by simp,Gf _ _ _ _,(Gg _ _).alloc _⟩
 case round=>
  obtain⟨k,A5,c5,xs,aK,rfl,rfl,aV,hxl,ae,hu⟩:=hrel
  by_cases hlt:k<l.length
  ·obtain⟨ad,aA,q0,q1,q2,q3⟩:=(h.upd hu Qo).at_ hlt;obtain⟨x,hx⟩:=Qe (l[k]);rw[hx]at q0 q1 q2 q3;subst aA;have X:=Qh hx;clear hx;have b1:(0:Int)<=(k:Int):=Qn _;have b2:(k:Int)<(l.length:Int):=by omega
   have uA:=(Gg No wr).alloc (.cells #[.bool x.read,Qi x.key,Qi x.tx,Qi x.nth] 50);have bo:=Gh wr 50 [.bool x.read,Qi x.key,Qi x.tx,Qi x.nth];have az:=Za ae uA Qo
   cases hr:x.read
   ·rw[hr]at q0 uA bo az;have HS:=Qh (Zod hlt X.out hr);have Hr:=Qh hr;clear hr;go_wp2_with fail;refine Ck (Znp _ ⟨false,x.key,x.tx,x.nth⟩) fun w1 hu1=>?_;have bo1:=bo.upd hu1 id;have g1:=bo1.cell 1;simp only[Qz,Qs]at g1;have am:=Za az hu1 Qo;have dj:=(uA.trans hu1).size;have gw:=hu.size;have dG:=Qh ((hu.trans uA).trans hu1);clear az uA hu1;go_wp2_with (at_builtin;refine ZX rfl rfl ZbW (v:= .slice A5 xs.length c5) (cells:=[Qi x.key]) (by rfl) rfl am rfl rfl (by omega) (by omega) (by omega) ?_;intro g' c' w2 aB hu3 eM eL);go_roundg (gk-1)
    case measure=>omega
    case rel=>
     refine⟨k+1,some ⟨g',0,none⟩,c',xs++[x.key],by omega,by go_num,by simp,Qh (by rw[HS.out,aV.out]),by simp;omega,by simpa using aB,dG.out.then_ hu3 fun i e=>?_⟩;exact .inr (am.lt i e).1
   ·rw[hr]at q0 uA bo az;have HS:=Qh (ZpZ hlt X.out hr);have Hr:=Qh hr;clear hr;go_wp2_with fail;refine Ck (Znp _ ⟨true,x.key,x.tx,x.nth⟩) fun w1 hu1=>?_;have dG:=Qh ((hu.trans uA).trans hu1);have am:=Za az hu1 Qo;clear az uA hu1;go_wp2;go_roundg (gk-1);exact⟨k+1,A5,c5,xs,by omega,by go_num,rfl,Qh (by rw[HS.out,aV.out]),by omega,am,dG.out⟩;omega
  ·obtain rfl:k=l.length:=by omega
   have Hx:=Qh (show xs=ZaK l fun o=> !o.read by rw[aV.out,Fj]);clear aV;have iG:=Qh (Zb7 xs);have Hk:=Qh (show Lib.compact (Zaj xs)=Zaz l by rw[Zdx,Hx.out];rfl);go_wp2_with fail;refine(Zi9 _ _ A5 c5 xs ae (by omega)).mono ?_;rintro e w1 ⟨rfl,aW,hu1⟩;have fP:w1.ownsRow w.heap.size 3 1 (.slice A5 (Zaj xs).length c5) (Zaj xs).length ((Zaj xs).map (Value.int .i64)):=by rw[iG.out];exact aW
   have nS:=Zif w1 w.heap.size A5 c5 (Zaj xs) fP (by rw[iG.out];omega);rw[Hk.out,iG.out]at nS;have vi:=Qh nS;have dd:=Qh (show∀i,Own (.slice A5 xs.length c5) i->w.heap.size<=i from fun i e=>(ae.lt i e).1);clear nS aW fP ae;go_wp2_with fail;refine(vi.out).mono ?_;rintro e w2 ⟨rfl,bi,hu2⟩;go_wp2;go_ret;exact⟨A5,c5,rfl,bi,(hu.then_ hu1 fun i e=> .inr (dd.out i e)).then_ hu2 fun i e=> .inr (dd.out i e)⟩
theorem Zvx(F:Gt)(w:Gy)(i0:Int)(dn:Bool)(A:OA)(c:Nat)(l:Gu)(h:HOps F w A l)(hl:Zp l.length):
  Calls Tryz.prog 158 #[.agg #[Qi i0,.bool dn,.slice A l.length c]] w (Zfn w (Zaz l)):=by
 have h1:=h.upd ((Gg No w).alloc (.cells #[Qi i0,.bool dn,.slice A l.length c] 53)) Qo;go_enter Tryz.func158,Tryz.ntmps158;go_wp2_with fail;refine(Zvw F _ i0 dn A c l h1 hl).mono ?_;rintro e w1 ⟨A1,c1,rfl,ho,hu⟩;go_wp2;go_ret;exact⟨A1,c1,rfl,Zz ho (by simp),((Gg No w).alloc _).trans hu⟩
/- Who writes each key. -/
structure MapSl (w:World) (base b:Nat) (m:List (Int×Value)) (f:Int->List Int):Prop where
 is:MapIs w b (fun n:Int=>Value.int .i64 n) m
 row:∀key,∃A c,(Zac m key).getD (.slice none 0 0)= .slice A (f key).length c∧w.ownsRow base 3 1 (.slice A (f key).length c) (f key).length ((f key).map (Value.int .i64))
 apart:∀k1 k2,k1≠k2->∀i,Own ((Zac m k1).getD (.slice none 0 0)) i->¬Own ((Zac m k2).getD (.slice none 0 0)) i
theorem MapSl.upd{S:Gt}{w w':Gy}{base b:Nat}{m:List (Int×Gz)}{f:Int->Gv}(h:MapSl w base b m f)(k:Upd S w w')(hb:¬S b)(hS:∀i,base<=i->i<w.heap.size->¬S i):MapSl w' base b m f:=by
 refine⟨h.is.upd k hb,fun key=>?_,h.apart⟩;obtain⟨A,c,h1,h2⟩:=h.row key;exact⟨A,c,h1,Za h2 k fun i hi=>by have:=h2.lt i hi;exact hS i this.1 this.2⟩
theorem MapSl.new{w:Gy}{base b:Nat}(h:MapIs w b (fun n:Int=>Value.int .i64 n) []):MapSl w base b [] fun _=>[]:=
 ⟨h,fun _=>⟨none,0,rfl,Gf _ _ _ _⟩,fun _ _ _ i hi=>by simp[ZdM,Own,Value.ownBlock]at hi⟩
theorem MapSl.congr{w:Gy}{base b:Nat}{m:List (Int×Gz)}{f g:Int->Gv}(h:MapSl w base b m f)(Bw:∀key,f key=g key):MapSl w base b m g:=by
 have:f=g:=funext Bw;rw[<-this];exact h
theorem MapSl.put{w w1 w2:Gy}{base b:Nat}{m:List (Int×Gz)}{f:Int->Gv}{key x:Int}{A A':OA}{c c':Nat}(h:MapSl w base b m f)
  (hA:(Zac m key).getD (.slice none 0 0)= .slice A (f key).length c) (hb:b<base)
  (ae:w1.ownsRow base 3 1 (.slice A' ((f key).length+1) c') ((f key).length+1) ((f key++[x]).map (Value.int .i64)))
  (hu1:Upd (Own (.slice A (f key).length c)) w w1) (hg:∀i,Own (.slice A' ((f key).length+1) c') i->Own (.slice A (f key).length c) i∨w.heap.size<=i)
  (cX:MapIs w2 b (fun n:Int=>Value.int .i64 n) (ZL m key (.slice A' ((f key).length+1) c'))) (hu2:Upd (One b) w1 w2):
  MapSl w2 base b (ZL m key (.slice A' ((f key).length+1) c')) (fun k=>if k=key then f key++[x] else f k):=by
 have hB:∀i,base<=i->¬One b i:=fun i hi e=>by cases e;omega
 refine⟨cX,fun k=>?_,fun k1 k2 hne i hi hi2=>?_⟩
 ·by_cases hk:k=key
  ·subst hk;simp only[if_true];refine⟨A',c',by rw[Zam];simp,?_⟩;have:=Za ae hu2 fun i hi=>hB i (ae.lt i hi).1
   simpa using this
  ·simp only[if_neg hk];obtain⟨B,d,h1,h2⟩:=h.row k;refine⟨B,d,by rw[ZaJ _ _ hk];exact h1,Za (Za h2 hu1 fun i hi e=>?_) hu2 fun i hi=>hB i (h2.lt i hi).1⟩;exact h.apart k key hk i (by rw[h1];exact hi) (by rw[hA];exact e)
 ·by_cases e1:k1=key
  ·subst e1;have nj:k2≠k1:=fun e=>hne e.symm
   rw[Zam]at hi;rw[ZaJ _ _ nj]at hi2;rcases hg i hi with hi|hi
   ·exact h.apart k1 k2 hne i (by rw[hA];exact hi) hi2
   ·obtain⟨B,d,h1,h2⟩:=h.row k2;rw[h1]at hi2;have:=(h2.lt i hi2).2;omega
  ·rw[ZaJ _ _ e1]at hi
   by_cases e2:k2=key
   ·subst e2;rw[Zam]at hi2;rcases hg i hi2 with hi2|hi2
    ·exact h.apart k1 k2 hne i hi (by rw[hA];exact hi2)
    ·obtain⟨B,d,h1,h2⟩:=h.row k1;rw[h1]at hi;have:=(h2.lt i hi).2;omega
   ·rw[ZaJ _ _ e2]at hi2;exact h.apart k1 k2 hne i hi hi2
theorem Zm3(s a b:Gv):Zcs s (a++b)=Zcs (Zcs s a) b:=by
 induction a generalizing s with
 |nil=>rfl
 |cons x a ih=>exact ih _
theorem Zqz(m:List (Int×Gz))(key:Int)(v:Gz)(s ks:Gv)(h:m.map (·.1)=Zcs s ks):(ZL m key v).map (·.1)=Zcs s (ks++[key]):=by
 rw[ZpO,Zm3,h];rfl
theorem Zlj(a b:List HTx)(s:Gv):ZM (a++b) s=ZM b (ZM a s):=by
 induction a generalizing s with
 |nil=>rfl
 |cons x a ih=>exact ih _
theorem Zip{txs:List HTx}{k:Nat}{x:HTx}(hk:k<txs.length)(hx:txs[k]=x):ZM (txs.take (k+1)) []=if x.done then Zcs (ZM (txs.take k) []) (Zaz x.ops) else ZM (txs.take k) []:=by
 subst hx;rw[Es hk,Zlj];rfl
theorem Zgx{txs:List HTx}{k:Nat}{x:HTx}(hk:k<txs.length)(hx:txs[k]=x)(key:Int):Zm (txs.take (k+1)) key=Zm (txs.take k) key++if x.done=true∧key∈Zaz x.ops then [x.id] else []:=by
 subst hx;unfold Zm;rw[Es hk,List.filter_append,F4]
 congr 1
 by_cases h:txs[k].done=true∧key∈Zaz txs[k].ops
 ·rw[if_pos h,List.filter_cons_of_pos (by rw[h.1];simpa using h.2)];rfl
 ·rw[if_neg h,List.filter_cons_of_neg (by
   intro e;simp only[Fp,List.contains_iff_mem]at e;exact h e)]
  rfl
def wrF(txs:List HTx)(k:Nat)(id:Int)(ks:Gv)(key:Int):Gv:=Zm (txs.take k) key++if key∈ks then [id] else []
theorem ZsH(txs:List HTx)(k:Nat)(id key:Int)(ks:Gv)(hn:key∉ks)(u:Int):(if u=key then wrF txs k id ks key++[id] else wrF txs k id ks u)=wrF txs k id (ks++[key]) u:=by
 unfold wrF
 by_cases h:u=key
 ·subst h;rw[if_pos rfl,if_neg hn,if_pos (by simp),Fv]
 ·rw[if_neg h]
  congr 1
  simp[h]
theorem ZsI(txs:List HTx)(k:Nat)(id u:Int):Zm (txs.take k) u=wrF txs k id [] u:=by unfold wrF;simp
theorem Zio(txs:List HTx)(key:Int):(Zm txs key).length<=txs.length:=by
 unfold Zm;rw[F6];exact E3 _ _
theorem ZtL(txs:List HTx)(k:Nat)(id:Int)(ks:Gv)(key:Int):(wrF txs k id ks key).length<=k+1:=by
 unfold wrF;rw[Fb];have h1:=Zio (txs.take k) key;have h2:=List.length_take_le k txs
 split<;>simp<;>omega
theorem ZoO(w:Gy):(zeroValue 57).run Tryz.prog w= .ok (.slice none 0 0) w:=by kernel_rfl
def ZwB(w:Gy)(txs:List HTx)(e:Ending)(w':Gy):Prop:=∃b m,e= .returned (.map (some b))∧w.heap.size<=b∧b<w.heap.size+2∧m.map (·.1)=ZM txs []∧MapSl w' (w.heap.size+2) b m (Zm txs)∧Upd No w w'
def Apart(m:List (Int×Gz))(g:Nat)(v:Gz):Prop:=∀key i,Own ((Zac m key).getD (.slice none 0 0)) i->i≠g∧¬Own v i
theorem Apart.put{m:List (Int×Gz)}{g z:Nat}{v old new:Gz}{key:Int}(h:Apart m g v)(ho:(Zac m key).getD (.slice none 0 0)=old)(hn:∀i,Own new i->Own old i∨z<=i)(hg:g<z)(hv:∀i,Own v i->i<z):Apart (ZL m key new) g v:=fun k i hi=>by
 by_cases e:k=key
 ·subst e;rw[Zam]at hi;rcases hn i hi with h1|h1
  ·exact h k i (by rw[ho];exact h1)
  ·exact⟨by omega,fun h2=>by have:=hv i h2;omega⟩
 ·rw[ZaJ _ _ e]at hi;exact h k i hi
theorem MapSl.block_lt{w:Gy}{base b:Nat}{m:List (Int×Gz)}{f:Int->Gv}(h:MapSl w base b m f)(key:Int)(i:Nat)(hi:Own ((Zac m key).getD (.slice none 0 0)) i):base<=i∧i<w.heap.size:=by
 obtain⟨A,c,h1,h2⟩:=h.row key;rw[h1]at hi;exact h2.lt i hi
theorem ZrE(F:Gt)(w:Gy)(h:Hist)(H:h.lies F w)(hs:h.txs.length<=4096):Calls Tryz.prog 121 #[h.val] w (ZwB w h.txs):=by
 obtain⟨txs,ords,A,c,B,d⟩:=h;simp only at hs;unfold Hist.val;have uH:=(Gg No w).alloc (.cells #[.slice A txs.length c,.slice B ords.length d] 29);have e8:= @run_makeMap Tryz.prog;have gN:=MapIs.new (α:=Int) (w.alloc (.cells #[.slice A txs.length c,.slice B ords.length d] 29)) (fun n:Int=>Value.int .i64 n);simp only[Ge]at gN;have HN:=Qh (MapSl.new (base:=w.heap.size+2) gN);clear gN;go_enter Tryz.func121,Tryz.ntmps121;go_wp2
 go_loopg [12] txs.length (fun gk i wr=>∃(k:Nat) (m:List (Int×Gz)),k+gk=txs.length∧i= Qi k∧Hid (MapSl wr (w.heap.size+2) (w.heap.size+1) m (Zm (txs.take k)))∧Hid (m.map (·.1)=ZM (txs.take k) [])∧
  Upd No (w.alloc (.cells #[.slice A txs.length c,.slice B ords.length d] 29)) wr)
 case atStart=>exact⟨0,[],by omega,rfl,Qh HN.out,Qh rfl,(Gg No _).alloc _⟩
 case round=>
  obtain⟨k,m,aK,rfl,hm,hk,hu⟩:=hrel;clear e8
  by_cases hlt:k<txs.length
  ·have H1:=H.upd (uH.trans hu) Qo;obtain⟨ad,aA,q0,q1,q2⟩:=H1.tx_at hlt;simp only at aA q0 q1 q2;have cD:=H1.tx txs[k] (Fr hlt);obtain⟨x,hx⟩:=Qe (txs[k]);rw[hx]at q0 q1 q2 cD;subst aA;have X:=Qh hx;have XL:=Qh cD;have b1:(0:Int)<=(k:Int):=Qn _;have b2:(k:Int)<(txs.length:Int):=by omega
   have uA:=(Gg No wr).alloc (.cells #[Qi x.id,.bool x.done,.slice x.A x.ops.length x.c] 53);have bo:=Qh (Gh wr 53 [Qi x.id,.bool x.done,.slice x.A x.ops.length x.c]);have fY:=Qh (hm.out.upd uA id (fun _ _ _=>id));clear hx cD H1
   cases hd:x.done
   ·rw[hd]at q1 uA bo;have HS:=Qh (show ZM (txs.take (k+1)) []=ZM (txs.take k) [] by rw[Zip hlt X.out,hd];rfl);have HW:=Qh (show∀key,Zm (txs.take k) key=Zm (txs.take (k+1)) key from fun key=>by rw[Zgx hlt X.out,hd];simp);have cX:=Qh ((hm.out.upd uA id (fun _ _ _=>id)).congr HW.out);clear hd;go_wp2;go_roundg (gk-1);exact⟨k+1,m,by omega,by go_num,cX,Qh (by rw[HS.out];exact hk.out),hu.trans uA⟩;omega
   ·rw[hd]at q1 uA bo;have HS:=Qh (show ZM (txs.take (k+1)) []=Zcs (ZM (txs.take k) []) (Zaz x.ops) by rw[Zip hlt X.out,hd];rfl);have HW:=Qh (show∀key,Zm (txs.take (k+1)) key=wrF txs k x.id (Zaz x.ops) key from fun key=>by rw[Zgx hlt X.out,hd];unfold wrF;simp);have cX:=Qh ((hm.out.upd uA id (fun _ _ _=>id)).congr (ZsI txs k x.id));clear hd;have bG:=Zvx F _ x.id true x.A x.c x.ops (HOps.upd XL.out.1 uA Qo) XL.out.2.2.1;obtain⟨ks,ep⟩:=Qe (Zaz x.ops);rw[ep]at bG;have HK:=Qh bG;have j4:=Qh ep;have cn:=Qh (show ks.Pairwise (·<·) by rw[<-ep];exact ZbX _);have fL:ks.length<=x.ops.length:=by rw[<-ep];exact Nat.le_trans (ZfJ _) (Zp0 _ _)
    have hxl:=XL.out.2.2.1;unfold Zp at hxl;clear bG ep;go_wp2_with fail;refine(HK.out).mono ?_;rintro e w1 ⟨A1,c1,rfl,aW,hu1⟩;have ou:=Qh (cX.out.upd hu1 id (fun _ _ _=>id));have bo1:=Qh (bo.out.upd hu1 id);have rY:=Qh aW;have dj:=uA.size;have dB:=hu1.size;have eF:=hu.size;have lg:=hm.out.is.lt;simp only[Ge]at dj dB eF;have tI:=Qh ((hu.trans uA).trans hu1)
    have kX:Apart m wr.heap.size (.slice A1 ks.length c1):=fun key i hi=>by
     have h1:=hm.out.block_lt key i hi;refine⟨by omega,fun h2=>?_⟩;have h3:=(aW.lt i h2).1;simp only[Ge]at h3;omega
    have rJ:=Qh kX;clear kX aW hu1 uA;have AA:=Zz (b2:=wr.heap.size+1) rY.out (by simp);clear rY;go_wp2;generalize wr.heap.size=z5 at*;generalize gk=GK at*
    go_loopg [22] ks.length (fun gj i wj=>∃(j:Nat) (mj:List (Int×Gz)),j+gj=ks.length∧i= Qi j∧Hid (MapSl wj (w.heap.size+2) (w.heap.size+1) mj (wrF txs k x.id (ks.take j)))∧
     Hid (mj.map (·.1)=Zcs (ZM (txs.take k) []) (ks.take j))∧Hid (Apart mj z5 (.slice A1 ks.length c1))∧Hid (Blk wj z5 53 [Qi x.id,.bool true,.slice x.A x.ops.length x.c])∧
     wj.ownsRow (z5+1) 3 1 (.slice A1 ks.length c1) ks.length (ks.map (Value.int .i64))∧Upd No (w.alloc (.cells #[.slice (some ad) txs.length c,.slice B ords.length d] 29)) wj)
    case atStart=>exact⟨0,m,by omega,rfl,ou,Qh hk.out,rJ,bo1,AA,tI.out⟩
    case round=>
     obtain⟨j,mj,iK,rfl,oc,wF,nK,boj,mJ,bI⟩:=hrel
     by_cases hltj:j<ks.length
     ·have hI:Ints (fun i=>z5+1<=i) _ A1 ks:=Ints.of_own mJ;obtain⟨ad1,DO,_,_,c0⟩:=hI.at_ hltj;obtain⟨key,hkey⟩:=Qe (ks[j]);rw[hkey]at c0;subst DO;have KE:=Qh hkey;clear hkey hI;have b3:(j:Int)<(ks.length:Int):=by omega
      have b4:(0:Int)<=(j:Int):=Qn _;obtain⟨Ak,ck,hrow,kg⟩:=oc.out.row key;obtain⟨fk,rO⟩:=Qe (wrF txs k x.id (ks.take j) key);have oz:fk.length<=k+1:=by rw[<-rO];exact ZtL txs k x.id _ key
      rw[rO]at hrow kg;have e1:=ZO ZeI Tryz.underlying179 ZoO oc.out.is key;rw[hrow]at e1;have ob0:=boj.out.cell 0;simp only[Qz]at ob0;have lh:=Qh hrow;have nH:=Qh rO
      have HP:=Qh (show∀u,(if u=key then wrF txs k x.id (ks.take j) key++[x.id] else wrF txs k x.id (ks.take j) u)=wrF txs k x.id (ks.take (j+1)) u from fun u=>by
       rw[Es hltj,KE.out];refine ZsH txs k x.id key (ks.take j) (fun hm=>?_) u;rw[List.mem_take_iff_getElem]at hm;obtain⟨q,hq,e⟩:=hm;have:=List.pairwise_iff_getElem.1 cn.out q j (by omega) (by omega) (by omega);rw[e,KE.out]at this;exact Int.lt_irrefl _ this)
      have Dq:=Qh (show∀v,(ZL mj key v).map (·.1)=Zcs (ZM (txs.take k) []) (ks.take (j+1)) from fun v=>by
       rw[Es hltj,KE.out];exact Zqz mj key v _ _ wF.out)
      clear hrow rO;have Di:=bI.size;simp only[Ge]at Di;have Cl:=boj.out.lt;have pr:=Qh oc.out.is;have cf:=pr.out.lt
      go_wp2_with (first
       |(at_builtin;refine ZX rfl rfl ZbW (v:= .slice Ak fk.length ck) (cells:=[Qi x.id]) (by rfl) rfl kg rfl rfl (by omega) (by omega) (by omega) ?_;intro g' c' w4 ar hu4 cQ nr)
       |(at_mapUpdate;refine ZpU rfl rfl ZeI Tryz.underlying179 (a:=key) (val:= .slice (some ⟨g',0,none⟩) (fk.length+1) c') (by rfl) (by rfl) (by rfl) (pr.out.upd hu4 (fun e=>by have:=(kg.lt _ e).1;omega)) ?_;intro w5 iA hu5))
      go_roundg (gk-1)
      case measure=>omega
      case rel=>
       have aL:∀i,Own (.slice Ak fk.length ck) i->w.heap.size+2<=i∧i<_:=fun i hi=>kg.lt i hi
       have rZ:∀i,Own (.slice (some ⟨g',0,none⟩) (fk.length+1) c') i->Own (.slice Ak fk.length ck) i∨_<=i:=fun i hi=>by
        have e:g'=i:=by simpa[Own,Value.ownBlock]using hi
        rw[<-e];exact cQ
       have uk:=oc.out.put (key:=key) (x:=x.id) (A:=Ak) (c:=ck) (by rw[lh.out,nH.out]) (by omega) (by rw[nH.out];simpa using ar) (by rw[nH.out];exact hu4) (by rw[nH.out];exact rZ) (by rw[nH.out];exact iA) hu5;refine⟨j+1,_,by omega,by go_num,Qh (uk.congr (g:=wrF txs k x.id (ks.take (j+1))) HP.out),Qh ?_,Qh ?_,Qh ?_,?_,?_⟩
       ·rw[nH.out];exact Dq.out _
       ·rw[nH.out];exact nK.out.put lh.out rZ Cl (fun i hi=>(mJ.lt i hi).2)
       ·exact(boj.out.upd hu4 (fun e=>(nK.out key z5 (by rw[lh.out];exact e)).1 rfl)).upd hu5 (fun e=>by cases e;omega)
       ·exact Za (Za mJ hu4 (fun i hi e=>(nK.out key i (by rw[lh.out];exact e)).2 hi)) hu5 (fun i hi e=>by have:=(mJ.lt i hi).1;cases e;omega)
       ·exact(bI.then_ hu4 fun i e=> .inr (by have:=(aL i e).1;simp only[Ge];omega)).then_ hu5 fun i e=> .inr (by cases e;simp)
     ·obtain rfl:j=ks.length:=by omega
      have tM:=Qh ((show MapSl _ (w.heap.size+2) (w.heap.size+1) mj (wrF txs k x.id ks) by have:=oc.out;rwa [Fj]at this).congr (g:=Zm (txs.take (k+1))) (fun key=>by rw[HW.out,j4.out]));have tG:=Qh (show mj.map (·.1)=ZM (txs.take (k+1)) [] by rw[HS.out,j4.out];have:=wF.out;rwa [Fj]at this);clear mJ;go_wp2;go_roundg (GK-1);exact⟨k+1,mj,by omega,by go_num,tM,tG,bI⟩;omega
  ·obtain rfl:k=txs.length:=by omega
   have tM:=Qh (show MapSl _ (w.heap.size+2) (w.heap.size+1) m (Zm txs) by have:=hm.out;rwa [Fj]at this);have tG:=Qh (show m.map (·.1)=ZM txs [] by have:=hk.out;rwa [Fj]at this);go_wp2;go_ret;exact⟨w.heap.size+1,m,rfl,by omega,by omega,tG.out,tM.out,uH.trans hu⟩
/- Whether a history is right. -/
theorem Zhe{p:Nat->Bool}{n k:Nat}(hk:k<n)(h:p k=false):(List.range n).all p=false:=by
 rw[List.all_eq_false];exact⟨k,F8.2 hk,by simp[h]⟩
theorem ZcR{p:Nat->Bool}{k:Nat}(h:(List.range k).all p=true)(hk:p k=true):(List.range (k+1)).all p=true:=by
 rw[List.range_succ,List.all_append,h];simp[hk]
section
variable {h:Hist} {k:Nat}
theorem ZeD(hk:k<h.txs.length)(ht:Zdu h.txs k=false):Zc h=false:=by
 unfold Zc;rw[Zhe hk ht];simp
theorem Zd7(hk:k<h.ords.length)(ht:ZdX h.txs h.ords k=false):Zc h=false:=by
 unfold Zc;rw[Zhe hk ht];simp
theorem Zpk(hl:((ZM h.txs []).length==h.ords.length)=false):Zc h=false:=by
 unfold Zc;rw[hl];simp
theorem ZiB(hl:4096<h.txs.length):Zc h=false:=by
 unfold Zc;rw[Qf (by omega)];simp
theorem Zpj(h1:h.txs.length<=4096)(h2:(List.range h.txs.length).all (Zdu h.txs)=true)(h3:((ZM h.txs []).length==h.ords.length)=true)(h4:(List.range h.ords.length).all (ZdX h.txs h.ords)=true):Zc h=true:=by
 unfold Zc;rw[Qt h1,h2,h3,h4];rfl
end
section
variable {txs:List HTx} {k:Nat} {x:HTx}
def Zec(txs:List HTx)(k:Nat)(id:Int):Bool:=match k with|0=>true|j+1=>(match txs[j]? with|some u=>decide (u.id<id)|none=>true)
theorem Zm8(hk:k<txs.length)(hx:txs[k]=x):Zdu txs k=(Zec txs k x.id&&Z3 x.id x.ops==0&&Zb1 txs x.id x.ops):=by
 unfold Zdu Zec;rw[Qg hk,hx]
 cases k<;>rfl
theorem Zsb{y:HTx}(hk:0<k)(hk2:k<txs.length)(hy:txs[k-1]'(by omega)=y)(id:Int)(h:id<=y.id):Zec txs k id=false:=by
 obtain⟨j,rfl⟩:∃j,k=j+1:=⟨k-1,by omega⟩;simp only[Nat.add_sub_cancel]at hy
 show(match txs[j]? with|some u=>decide (u.id<id)|none=>true)=_
 rw[Qg (by omega),hy];simp only[decide_eq_false_iff_not];omega
theorem Zqw{y:HTx}(hk:0<k)(hk2:k<txs.length)(hy:txs[k-1]'(by omega)=y)(id:Int)(h:y.id<id):Zec txs k id=true:=by
 obtain⟨j,rfl⟩:∃j,k=j+1:=⟨k-1,by omega⟩;simp only[Nat.add_sub_cancel]at hy
 show(match txs[j]? with|some u=>decide (u.id<id)|none=>true)=_
 rw[Qg (by omega),hy];simp only[Ff];omega
end
section
variable {txs:List HTx} {ords:Gq} {k:Nat} {x:HOrd}
def ZeU(ords:Gq)(k:Nat)(key:Int):Bool:=match k with|0=>true|j+1=>(match ords[j]? with|some u=>decide (u.key<key)|none=>true)
theorem Zrp(hk:k<ords.length)(hx:ords[k]=x):ZdX txs ords k=(ZeU ords k x.key&& !x.txs.isEmpty&&(ZbM x.txs==ZbM (Zm txs x.key))):=by
 unfold ZdX ZeU;rw[Qg hk,hx]
 cases k<;>rfl
theorem Zqy{y:HOrd}(hk:0<k)(hk2:k<ords.length)(hy:ords[k-1]'(by omega)=y)(key:Int)(h:key<=y.key):ZeU ords k key=false:=by
 obtain⟨j,rfl⟩:∃j,k=j+1:=⟨k-1,by omega⟩;simp only[Nat.add_sub_cancel]at hy
 show(match ords[j]? with|some u=>decide (u.key<key)|none=>true)=_
 rw[Qg (by omega),hy];simp only[decide_eq_false_iff_not];omega
theorem ZoJ{y:HOrd}(hk:0<k)(hk2:k<ords.length)(hy:ords[k-1]'(by omega)=y)(key:Int)(h:y.key<key):ZeU ords k key=true:=by
 obtain⟨j,rfl⟩:∃j,k=j+1:=⟨k-1,by omega⟩;simp only[Nat.add_sub_cancel]at hy
 show(match ords[j]? with|some u=>decide (u.key<key)|none=>true)=_
 rw[Qg (by omega),hy];simp only[Ff];omega
end
theorem Zrj(a b:Gv):ZiK a b=(ZbM a==ZbM b):=by unfold ZiK;rw[ZhV,ZhV]
section
variable {F:Gt} {w:Gy} {i0:Int} {dn:Bool} {A:OA} {c:Nat} {l:Gu}
theorem Zev{v:Int}(h:HOps F w A l)(hl:Zp l.length)(hv:Z3 i0 l=v):CN 119 #[.agg #[Qi i0,.bool dn,.slice A l.length c]] w (Qi v):=by subst hv;exact ZtR F w i0 dn A c l h hl
theorem Zf6{v:Bool}{txs:List HTx}{ords:Gq}{A' B:OA}{c' d:Nat}(H:Hist.lies F w ⟨txs,ords,A',c',B,d⟩)(h:HOps F w A l)(hl:Zp l.length)(hv:Zb1 txs i0 l=v):
  CN 120 #[.agg #[.slice A' txs.length c',.slice B ords.length d],.agg #[Qi i0,.bool dn,.slice A l.length c]] w (.bool v):=by subst hv;exact Zti F w ⟨txs,ords,A',c',B,d⟩ i0 dn A c l H h hl
end
theorem ZiS{F G:Gt}{w:Gy}{A B:OA}{c d:Nat}{a b:Gv}{v:Bool}(ha:Ints F w A a)(hb:Ints G w B b)(hl:a.length<=17592186044415)(aN:b.length<=17592186044415)(hv:ZiK a b=v):
  CN 122 #[.slice A a.length c,.slice B b.length d] w (.bool v):=by subst hv;exact Zvr F G w A B c d a b ha hb hl aN
theorem Zp6(F:Gt)(w:Gy)(h:Hist)(H:h.lies F w):CN 78 #[h.val] w (.bool (Zc h)):=by
 obtain⟨txs,ords,A,c,B,d⟩:=h;have hft:=H.few;have eh:=H.fewo;simp only at hft eh;unfold Hist.val;have uH:=(Gg No w).alloc (.cells #[.slice A txs.length c,.slice B ords.length d] 29)
 by_cases hmany:4096<txs.length
 ·have hv:=Qh (ZiB (h:=⟨txs,ords,A,c,B,d⟩) hmany);go_enter Tryz.func78,Tryz.ntmps78;go_wp2;go_ret;exact⟨by rw[hv.out];rfl,uH⟩
 ·have sL:decide ((4096:Int)<(txs.length:Int))=false:=Qf (by omega);have bH0:=Qh (Gh w 29 [.slice A txs.length c,.slice B ords.length d]);go_enter Tryz.func78,Tryz.ntmps78;go_wp2
  go_loopg [15] txs.length (fun gk i wr=>∃(k:Nat),k+gk=txs.length∧i= Qi k∧Hid ((List.range k).all (Zdu txs)=true)∧Upd No (w.alloc (.cells #[.slice A txs.length c,.slice B ords.length d] 29)) wr)
  case atStart=>exact⟨0,by omega,rfl,Qh rfl,Gg No _⟩
  case round=>
   obtain⟨k,aK,rfl,aH,hu⟩:=hrel
   by_cases hlt:k<txs.length
   ·have H1:=H.upd (uH.trans hu) Qo;obtain⟨ad,aA,q0,q1,q2⟩:=H1.tx_at hlt;simp only at aA q0 q1 q2;have aQ:=H.tx txs[k] (Fr hlt);have cD:=H1.tx txs[k] (Fr hlt);obtain⟨x,hx⟩:=Qe (txs[k]);rw[hx]at q0 q1 q2 cD aQ;subst aA;have X:=Qh hx;have XL:=Qh cD;have eO:=Qh aQ;have b1:(0:Int)<=(k:Int):=Qn _;have b2:(k:Int)<(txs.length:Int):=by omega
    have uA:=(Gg No wr).alloc (.cells #[Qi x.id,.bool x.done,.slice x.A x.ops.length x.c] 53);have bo:=Qh (Gh wr 53 [Qi x.id,.bool x.done,.slice x.A x.ops.length x.c]);have bH:=Qh ((bH0.out.upd hu id).upd uA id);have UA:=Qh (hu.trans uA);clear hx cD aQ;obtain⟨E,gE⟩:=Qe (Z3 x.id x.ops);obtain⟨N,hN0⟩:=Qe (Zb1 txs x.id x.ops);have hE:=Qh gE;have hN:=Qh hN0;have aC:=Qh (show Zdu txs k=(Zec txs k x.id&&E==0&&N) by rw[Zm8 hlt X.out,gE,hN0]);clear gE hN0
    by_cases hk0:k=0
    ·have mZ:=Qh (show Zec txs k x.id=true by rw[hk0];rfl);have bG:decide ((0:Int)<(k:Int))=false:=Qf (by omega);have nY:decide (0<k)=false:=Qf (by omega);clear hk0 H1
     by_cases hE1:E=0
     ·subst hE1
      cases N
      ·have hf:Hid (Zc ⟨txs,ords,some ad,c,B,d⟩=false):=Qh (ZeD (k:=k) hlt (by rw[aC.out];simp));obtain⟨g0,g1⟩:=bH.out.c2;obtain⟨k0,k1,k2⟩:=bo.out.c3;go_wp2;refine wpS (fun w'=>Upd No (w.alloc (.cells #[.slice (some ad) txs.length c,.slice B ords.length d] 29)) w'∧w'.cell? ⟨w.heap.size,0,none⟩=some (.slice (some ad) txs.length c)∧w'.cell? ⟨w.heap.size,1,none⟩=some (.slice B ords.length d)∧w'.cell? ⟨wr.heap.size,0,none⟩=some (Qi x.id)∧w'.cell? ⟨wr.heap.size,1,none⟩=some (.bool x.done)∧w'.cell? ⟨wr.heap.size,2,none⟩=some (.slice x.A x.ops.length x.c)) ?_ fun jH=>?_
       ·(first|exact⟨UA.out.drew,g0,g1,k0,k1,k2⟩|exact⟨jH.1.trans hu3,hu3.keepNo jH.2.1,hu3.keepNo jH.2.2.1,hu3.keepNo jH.2.2.2.1,hu3.keepNo jH.2.2.2.2.1,hu3.keepNo jH.2.2.2.2.2⟩)
       (iterate 16 refine wpF ?_);refine wpZ 16 rfl fun K hK=>?_;go_simp
       (first
  |(go_at_call 119;refine Ck (Zev (F:=F) (v:=0) (HOps.upd eO.out.1 (uH.trans jH.1) Qo) XL.out.2.2.1 hE.out) fun w3 hu3=>?_))
       try (go_wp2_with fail)
       refine hK.out _ _ ?_ fun jH=>?_
       ·(first|exact⟨UA.out.drew,g0,g1,k0,k1,k2⟩|exact⟨jH.1.trans hu3,hu3.keepNo jH.2.1,hu3.keepNo jH.2.2.1,hu3.keepNo jH.2.2.2.1,hu3.keepNo jH.2.2.2.2.1,hu3.keepNo jH.2.2.2.2.2⟩)
       try simp only[Qa]
       (iterate 5 refine wpF ?_);refine wpZ 22 rfl fun K hK=>?_;go_simp
       (first
  |(go_at_call 120;refine Ck (Zf6 (F:=F) (v:=false) (H.upd (uH.trans jH.1) Qo) (HOps.upd eO.out.1 (uH.trans jH.1) Qo) XL.out.2.2.1 hN.out) fun w3 hu3=>?_))
       try (go_wp2_with fail)
       refine hK.out _ _ ?_ fun jH=>?_
       ·(first|exact⟨UA.out.drew,g0,g1,k0,k1,k2⟩|exact⟨jH.1.trans hu3,hu3.keepNo jH.2.1,hu3.keepNo jH.2.2.1,hu3.keepNo jH.2.2.2.1,hu3.keepNo jH.2.2.2.2.1,hu3.keepNo jH.2.2.2.2.2⟩)
       try simp only[Qa]
       (iterate 2 refine wpF ?_);refine wpD (Gd ?_);have HU:=Qh jH.1;clear jH;go_wp2;go_ret;exact⟨by rw[hf.out];rfl,uH.trans HU.out⟩
      ·have HA:=Qh (ZcR aH.out (by rw[aC.out,mZ.out];rfl));obtain⟨g0,g1⟩:=bH.out.c2;obtain⟨k0,k1,k2⟩:=bo.out.c3;go_wp2;refine wpS (fun w'=>Upd No (w.alloc (.cells #[.slice (some ad) txs.length c,.slice B ords.length d] 29)) w'∧w'.cell? ⟨w.heap.size,0,none⟩=some (.slice (some ad) txs.length c)∧w'.cell? ⟨w.heap.size,1,none⟩=some (.slice B ords.length d)∧w'.cell? ⟨wr.heap.size,0,none⟩=some (Qi x.id)∧w'.cell? ⟨wr.heap.size,1,none⟩=some (.bool x.done)∧w'.cell? ⟨wr.heap.size,2,none⟩=some (.slice x.A x.ops.length x.c)) ?_ fun jH=>?_
       ·(first|exact⟨UA.out.drew,g0,g1,k0,k1,k2⟩|exact⟨jH.1.trans hu3,hu3.keepNo jH.2.1,hu3.keepNo jH.2.2.1,hu3.keepNo jH.2.2.2.1,hu3.keepNo jH.2.2.2.2.1,hu3.keepNo jH.2.2.2.2.2⟩)
       (iterate 16 refine wpF ?_);refine wpZ 16 rfl fun K hK=>?_;go_simp
       (first
  |(go_at_call 119;refine Ck (Zev (F:=F) (v:=0) (HOps.upd eO.out.1 (uH.trans jH.1) Qo) XL.out.2.2.1 hE.out) fun w3 hu3=>?_))
       try (go_wp2_with fail)
       refine hK.out _ _ ?_ fun jH=>?_
       ·(first|exact⟨UA.out.drew,g0,g1,k0,k1,k2⟩|exact⟨jH.1.trans hu3,hu3.keepNo jH.2.1,hu3.keepNo jH.2.2.1,hu3.keepNo jH.2.2.2.1,hu3.keepNo jH.2.2.2.2.1,hu3.keepNo jH.2.2.2.2.2⟩)
       try simp only[Qa]
       (iterate 5 refine wpF ?_);refine wpZ 22 rfl fun K hK=>?_;go_simp
       (first
  |(go_at_call 120;refine Ck (Zf6 (F:=F) (v:=true) (H.upd (uH.trans jH.1) Qo) (HOps.upd eO.out.1 (uH.trans jH.1) Qo) XL.out.2.2.1 hN.out) fun w3 hu3=>?_))
       try (go_wp2_with fail)
       refine hK.out _ _ ?_ fun jH=>?_
       ·(first|exact⟨UA.out.drew,g0,g1,k0,k1,k2⟩|exact⟨jH.1.trans hu3,hu3.keepNo jH.2.1,hu3.keepNo jH.2.2.1,hu3.keepNo jH.2.2.2.1,hu3.keepNo jH.2.2.2.2.1,hu3.keepNo jH.2.2.2.2.2⟩)
       try simp only[Qa]
       (iterate 2 refine wpF ?_);refine wpD (Gd ?_);have HU:=Qh jH.1;clear jH;go_wp2;go_roundg (gk-1);exact⟨k+1,by omega,by go_num,Qh HA.out,HU.out⟩;omega
     ·have nE:(E != 0)=true:=by simpa using hE1
      have hf:Hid (Zc ⟨txs,ords,some ad,c,B,d⟩=false):=Qh (ZeD (k:=k) hlt (by rw[aC.out,beq_eq_false_iff_ne.2 hE1];simp));clear hE1;obtain⟨g0,g1⟩:=bH.out.c2;obtain⟨k0,k1,k2⟩:=bo.out.c3;go_wp2;refine wpS (fun w'=>Upd No (w.alloc (.cells #[.slice (some ad) txs.length c,.slice B ords.length d] 29)) w'∧w'.cell? ⟨w.heap.size,0,none⟩=some (.slice (some ad) txs.length c)∧w'.cell? ⟨w.heap.size,1,none⟩=some (.slice B ords.length d)∧w'.cell? ⟨wr.heap.size,0,none⟩=some (Qi x.id)∧w'.cell? ⟨wr.heap.size,1,none⟩=some (.bool x.done)∧w'.cell? ⟨wr.heap.size,2,none⟩=some (.slice x.A x.ops.length x.c)) ?_ fun jH=>?_
      ·(first|exact⟨UA.out.drew,g0,g1,k0,k1,k2⟩|exact⟨jH.1.trans hu3,hu3.keepNo jH.2.1,hu3.keepNo jH.2.2.1,hu3.keepNo jH.2.2.2.1,hu3.keepNo jH.2.2.2.2.1,hu3.keepNo jH.2.2.2.2.2⟩)
      (iterate 16 refine wpF ?_);refine wpZ 16 rfl fun K hK=>?_;go_simp
      (first
  |(go_at_call 119;refine Ck (Zev (F:=F) (v:=E) (HOps.upd eO.out.1 (uH.trans jH.1) Qo) XL.out.2.2.1 hE.out) fun w3 hu3=>?_))
      try (go_wp2_with fail)
      refine hK.out _ _ ?_ fun jH=>?_
      ·(first|exact⟨UA.out.drew,g0,g1,k0,k1,k2⟩|exact⟨jH.1.trans hu3,hu3.keepNo jH.2.1,hu3.keepNo jH.2.2.1,hu3.keepNo jH.2.2.2.1,hu3.keepNo jH.2.2.2.2.1,hu3.keepNo jH.2.2.2.2.2⟩)
      try simp only[Qa]
      (iterate 5 refine wpF ?_);refine wpZ 22 rfl fun K hK=>?_;go_simp;refine hK.out _ _ ?_ fun jH=>?_
      ·exact jH
      try simp only[Qa]
      (iterate 2 refine wpF ?_);refine wpD (Gd ?_);have HU:=Qh jH.1;clear jH;go_wp2;go_ret;exact⟨by rw[hf.out];rfl,uH.trans HU.out⟩
    ·obtain⟨ad2,aT,p0,_,_⟩:=H1.tx_at (k:=k-1) (show k-1<txs.length by omega);simp only at aT p0
     cases aT
     obtain⟨y',jf⟩:∃y',txs[k-1]'(by omega)=y':=⟨_,rfl⟩;rw[jf]at p0
     replace p0:=uA.keepNo p0
     have gR:0<k:=by omega
     by_cases hordL:x.id<=y'.id
     ·have hf:Hid (Zc ⟨txs,ords,some ad,c,B,d⟩=false):=Qh (ZeD (k:=k) hlt (by rw[aC.out,Zsb gR hlt jf x.id hordL];simp));obtain⟨y,hy⟩:=Qe y'.id;rw[hy]at p0 hordL;clear hy jf H1;have dd:decide (x.id<=y)=true:=Qt hordL;have bG:decide ((0:Int)<(k:Int))=true:=Qt (by omega);have nY:decide (0<k)=true:=Qt (by omega);have au:IntKind.i64.wrap ((k:Int)-1)=(k:Int)-1:=IntWalk.i64_in _ (by omega);have cH:(0:Int)<=(k:Int)-1:=by omega
      have fe:(1:Int)<=(k:Int):=by omega
      have eq:(k:Int)-1<(txs.length:Int):=by omega
      have oU:((k:Int)-1).toNat=k-1:=by omega
      obtain⟨g0,g1⟩:=bH.out.c2;obtain⟨k0,k1,k2⟩:=bo.out.c3;go_wp2;refine wpS (fun w'=>Upd No (w.alloc (.cells #[.slice (some ad) txs.length c,.slice B ords.length d] 29)) w'∧w'.cell? ⟨w.heap.size,0,none⟩=some (.slice (some ad) txs.length c)∧w'.cell? ⟨w.heap.size,1,none⟩=some (.slice B ords.length d)∧w'.cell? ⟨wr.heap.size,0,none⟩=some (Qi x.id)∧w'.cell? ⟨wr.heap.size,1,none⟩=some (.bool x.done)∧w'.cell? ⟨wr.heap.size,2,none⟩=some (.slice x.A x.ops.length x.c)∧w'.cell? (ad.add ((k-1)*3))=some (Qi y)) ?_ fun jH=>?_
      ·(first|exact⟨UA.out.drew,g0,g1,k0,k1,k2,p0⟩|exact⟨jH.1.trans hu3,hu3.keepNo jH.2.1,hu3.keepNo jH.2.2.1,hu3.keepNo jH.2.2.2.1,hu3.keepNo jH.2.2.2.2.1,hu3.keepNo jH.2.2.2.2.2.1,hu3.keepNo jH.2.2.2.2.2.2⟩)
      (iterate 16 refine wpF ?_);refine wpZ 16 rfl fun K hK=>?_;go_simp;refine hK.out _ _ ?_ fun jH=>?_
      ·exact jH
      try simp only[Qa]
      (iterate 5 refine wpF ?_);refine wpZ 22 rfl fun K hK=>?_;go_simp;refine hK.out _ _ ?_ fun jH=>?_
      ·exact jH
      try simp only[Qa]
      (iterate 2 refine wpF ?_);refine wpD (Gd ?_);have HU:=Qh jH.1;clear jH;go_wp2;go_ret;exact⟨by rw[hf.out];rfl,uH.trans HU.out⟩
     ·have mZ:Hid (Zec txs k x.id=true):=Qh (Zqw gR hlt jf x.id (by omega));obtain⟨y,hy⟩:=Qe y'.id;rw[hy]at p0 hordL;clear hy jf H1;have dd:decide (x.id<=y)=false:=Qf hordL;have bG:decide ((0:Int)<(k:Int))=true:=Qt (by omega);have nY:decide (0<k)=true:=Qt (by omega);have au:IntKind.i64.wrap ((k:Int)-1)=(k:Int)-1:=IntWalk.i64_in _ (by omega);have cH:(0:Int)<=(k:Int)-1:=by omega
      have fe:(1:Int)<=(k:Int):=by omega
      have eq:(k:Int)-1<(txs.length:Int):=by omega
      have oU:((k:Int)-1).toNat=k-1:=by omega
      by_cases hE1:E=0
      ·subst hE1
       cases N
       ·have hf:Hid (Zc ⟨txs,ords,some ad,c,B,d⟩=false):=Qh (ZeD (k:=k) hlt (by rw[aC.out];simp));obtain⟨g0,g1⟩:=bH.out.c2;obtain⟨k0,k1,k2⟩:=bo.out.c3;go_wp2;refine wpS (fun w'=>Upd No (w.alloc (.cells #[.slice (some ad) txs.length c,.slice B ords.length d] 29)) w'∧w'.cell? ⟨w.heap.size,0,none⟩=some (.slice (some ad) txs.length c)∧w'.cell? ⟨w.heap.size,1,none⟩=some (.slice B ords.length d)∧w'.cell? ⟨wr.heap.size,0,none⟩=some (Qi x.id)∧w'.cell? ⟨wr.heap.size,1,none⟩=some (.bool x.done)∧w'.cell? ⟨wr.heap.size,2,none⟩=some (.slice x.A x.ops.length x.c)∧w'.cell? (ad.add ((k-1)*3))=some (Qi y)) ?_ fun jH=>?_
        ·(first|exact⟨UA.out.drew,g0,g1,k0,k1,k2,p0⟩|exact⟨jH.1.trans hu3,hu3.keepNo jH.2.1,hu3.keepNo jH.2.2.1,hu3.keepNo jH.2.2.2.1,hu3.keepNo jH.2.2.2.2.1,hu3.keepNo jH.2.2.2.2.2.1,hu3.keepNo jH.2.2.2.2.2.2⟩)
        (iterate 16 refine wpF ?_);refine wpZ 16 rfl fun K hK=>?_;go_simp
        (first
  |(go_at_call 119;refine Ck (Zev (F:=F) (v:=0) (HOps.upd eO.out.1 (uH.trans jH.1) Qo) XL.out.2.2.1 hE.out) fun w3 hu3=>?_))
        try (go_wp2_with fail)
        refine hK.out _ _ ?_ fun jH=>?_
        ·(first|exact⟨UA.out.drew,g0,g1,k0,k1,k2,p0⟩|exact⟨jH.1.trans hu3,hu3.keepNo jH.2.1,hu3.keepNo jH.2.2.1,hu3.keepNo jH.2.2.2.1,hu3.keepNo jH.2.2.2.2.1,hu3.keepNo jH.2.2.2.2.2.1,hu3.keepNo jH.2.2.2.2.2.2⟩)
        try simp only[Qa]
        (iterate 5 refine wpF ?_);refine wpZ 22 rfl fun K hK=>?_;go_simp
        (first
  |(go_at_call 120;refine Ck (Zf6 (F:=F) (v:=false) (H.upd (uH.trans jH.1) Qo) (HOps.upd eO.out.1 (uH.trans jH.1) Qo) XL.out.2.2.1 hN.out) fun w3 hu3=>?_))
        try (go_wp2_with fail)
        refine hK.out _ _ ?_ fun jH=>?_
        ·(first|exact⟨UA.out.drew,g0,g1,k0,k1,k2,p0⟩|exact⟨jH.1.trans hu3,hu3.keepNo jH.2.1,hu3.keepNo jH.2.2.1,hu3.keepNo jH.2.2.2.1,hu3.keepNo jH.2.2.2.2.1,hu3.keepNo jH.2.2.2.2.2.1,hu3.keepNo jH.2.2.2.2.2.2⟩)
        try simp only[Qa]
        (iterate 2 refine wpF ?_);refine wpD (Gd ?_);have HU:=Qh jH.1;clear jH;go_wp2;go_ret;exact⟨by rw[hf.out];rfl,uH.trans HU.out⟩
       ·have HA:=Qh (ZcR aH.out (by rw[aC.out,mZ.out];rfl));obtain⟨g0,g1⟩:=bH.out.c2;obtain⟨k0,k1,k2⟩:=bo.out.c3;go_wp2;refine wpS (fun w'=>Upd No (w.alloc (.cells #[.slice (some ad) txs.length c,.slice B ords.length d] 29)) w'∧w'.cell? ⟨w.heap.size,0,none⟩=some (.slice (some ad) txs.length c)∧w'.cell? ⟨w.heap.size,1,none⟩=some (.slice B ords.length d)∧w'.cell? ⟨wr.heap.size,0,none⟩=some (Qi x.id)∧w'.cell? ⟨wr.heap.size,1,none⟩=some (.bool x.done)∧w'.cell? ⟨wr.heap.size,2,none⟩=some (.slice x.A x.ops.length x.c)∧w'.cell? (ad.add ((k-1)*3))=some (Qi y)) ?_ fun jH=>?_
        ·(first|exact⟨UA.out.drew,g0,g1,k0,k1,k2,p0⟩|exact⟨jH.1.trans hu3,hu3.keepNo jH.2.1,hu3.keepNo jH.2.2.1,hu3.keepNo jH.2.2.2.1,hu3.keepNo jH.2.2.2.2.1,hu3.keepNo jH.2.2.2.2.2.1,hu3.keepNo jH.2.2.2.2.2.2⟩)
        (iterate 16 refine wpF ?_);refine wpZ 16 rfl fun K hK=>?_;go_simp
        (first
  |(go_at_call 119;refine Ck (Zev (F:=F) (v:=0) (HOps.upd eO.out.1 (uH.trans jH.1) Qo) XL.out.2.2.1 hE.out) fun w3 hu3=>?_))
        try (go_wp2_with fail)
        refine hK.out _ _ ?_ fun jH=>?_
        ·(first|exact⟨UA.out.drew,g0,g1,k0,k1,k2,p0⟩|exact⟨jH.1.trans hu3,hu3.keepNo jH.2.1,hu3.keepNo jH.2.2.1,hu3.keepNo jH.2.2.2.1,hu3.keepNo jH.2.2.2.2.1,hu3.keepNo jH.2.2.2.2.2.1,hu3.keepNo jH.2.2.2.2.2.2⟩)
        try simp only[Qa]
        (iterate 5 refine wpF ?_);refine wpZ 22 rfl fun K hK=>?_;go_simp
        (first
  |(go_at_call 120;refine Ck (Zf6 (F:=F) (v:=true) (H.upd (uH.trans jH.1) Qo) (HOps.upd eO.out.1 (uH.trans jH.1) Qo) XL.out.2.2.1 hN.out) fun w3 hu3=>?_))
        try (go_wp2_with fail)
        refine hK.out _ _ ?_ fun jH=>?_
        ·(first|exact⟨UA.out.drew,g0,g1,k0,k1,k2,p0⟩|exact⟨jH.1.trans hu3,hu3.keepNo jH.2.1,hu3.keepNo jH.2.2.1,hu3.keepNo jH.2.2.2.1,hu3.keepNo jH.2.2.2.2.1,hu3.keepNo jH.2.2.2.2.2.1,hu3.keepNo jH.2.2.2.2.2.2⟩)
        try simp only[Qa]
        (iterate 2 refine wpF ?_);refine wpD (Gd ?_);have HU:=Qh jH.1;clear jH;go_wp2;go_roundg (gk-1);exact⟨k+1,by omega,by go_num,Qh HA.out,HU.out⟩;omega
      ·have nE:(E != 0)=true:=by simpa using hE1
       have hf:Hid (Zc ⟨txs,ords,some ad,c,B,d⟩=false):=Qh (ZeD (k:=k) hlt (by rw[aC.out,beq_eq_false_iff_ne.2 hE1];simp));clear hE1;obtain⟨g0,g1⟩:=bH.out.c2;obtain⟨k0,k1,k2⟩:=bo.out.c3;go_wp2;refine wpS (fun w'=>Upd No (w.alloc (.cells #[.slice (some ad) txs.length c,.slice B ords.length d] 29)) w'∧w'.cell? ⟨w.heap.size,0,none⟩=some (.slice (some ad) txs.length c)∧w'.cell? ⟨w.heap.size,1,none⟩=some (.slice B ords.length d)∧w'.cell? ⟨wr.heap.size,0,none⟩=some (Qi x.id)∧w'.cell? ⟨wr.heap.size,1,none⟩=some (.bool x.done)∧w'.cell? ⟨wr.heap.size,2,none⟩=some (.slice x.A x.ops.length x.c)∧w'.cell? (ad.add ((k-1)*3))=some (Qi y)) ?_ fun jH=>?_
       ·(first|exact⟨UA.out.drew,g0,g1,k0,k1,k2,p0⟩|exact⟨jH.1.trans hu3,hu3.keepNo jH.2.1,hu3.keepNo jH.2.2.1,hu3.keepNo jH.2.2.2.1,hu3.keepNo jH.2.2.2.2.1,hu3.keepNo jH.2.2.2.2.2.1,hu3.keepNo jH.2.2.2.2.2.2⟩)
       (iterate 16 refine wpF ?_);refine wpZ 16 rfl fun K hK=>?_;go_simp
       (first
  |(go_at_call 119;refine Ck (Zev (F:=F) (v:=E) (HOps.upd eO.out.1 (uH.trans jH.1) Qo) XL.out.2.2.1 hE.out) fun w3 hu3=>?_))
       try (go_wp2_with fail)
       refine hK.out _ _ ?_ fun jH=>?_
       ·(first|exact⟨UA.out.drew,g0,g1,k0,k1,k2,p0⟩|exact⟨jH.1.trans hu3,hu3.keepNo jH.2.1,hu3.keepNo jH.2.2.1,hu3.keepNo jH.2.2.2.1,hu3.keepNo jH.2.2.2.2.1,hu3.keepNo jH.2.2.2.2.2.1,hu3.keepNo jH.2.2.2.2.2.2⟩)
       try simp only[Qa]
       (iterate 5 refine wpF ?_);refine wpZ 22 rfl fun K hK=>?_;go_simp;refine hK.out _ _ ?_ fun jH=>?_
       ·exact jH
       try simp only[Qa]
       (iterate 2 refine wpF ?_);refine wpD (Gd ?_);have HU:=Qh jH.1;clear jH;go_wp2;go_ret;exact⟨by rw[hf.out];rfl,uH.trans HU.out⟩
   ·obtain rfl:k=txs.length:=by omega
    have jl:=Qh aH.out;have e7:=bH0.out.upd hu id;obtain⟨g0',g1'⟩:=e7.c2;have HW:=Qh (ZrE F _ ⟨txs,ords,A,c,B,d⟩ (H.upd (uH.trans hu) Qo) (by show txs.length<=4096;omega));clear e7;go_wp2_with fail;refine(HW.out).mono ?_;rintro e w1 ⟨b,m,rfl,hb1,hb2,nZ,su,hu1⟩;have bH1:=Qh ((bH0.out.upd hu id).upd hu1 id);have U1:=Qh ((uH.trans hu).trans hu1);have cF:=ZqT Tryz.underlying179 su.is;have gX:m.length=(ZM txs []).length:=by rw[<-nZ,F6]
    have g1:=bH1.out.cell 1;simp only[Qz,Qs]at g1;have yg:=Qh su;have sO:=fun ty=>cF ty
    clear g0' g1' su nZ cF hu1 aH
    by_cases hle:(ZM txs []).length=ords.length
    ·have hne:((m.length:Int) != (ords.length:Int))=false:=by rw[gX,hle];simp
     have jn:=Qh (show((ZM (Hist.txs ⟨txs,ords,A,c,B,d⟩) []).length==(Hist.ords ⟨txs,ords,A,c,B,d⟩).length)=true by show((ZM txs []).length==ords.length)=true;rw[hle];simp);clear gX hle;go_wp2;clear sO hne
     go_loopg [57] ords.length (fun gk i wr=>∃(k:Nat),k+gk=ords.length∧i= Qi k∧Hid ((List.range k).all (ZdX txs ords)=true)∧Upd No w1 wr)
     case atStart=>exact⟨0,by omega,rfl,Qh rfl,Gg No _⟩
     case round=>
      obtain⟨k,aK,rfl,iY,hu2⟩:=hrel
      by_cases hlt:k<ords.length
      ·have H1:=H.upd (U1.out.trans hu2) Qo;obtain⟨ad,aA,q0,q1⟩:=H1.ord_at hlt;simp only at aA q0 q1;have aQ:=H.ord ords[k] (Fr hlt);obtain⟨x,hx⟩:=Qe (ords[k]);rw[hx]at q0 q1 aQ;subst aA;have X:=Qh hx;have eO:=Qh aQ;have b1:(0:Int)<=(k:Int):=Qn _;have b2:(k:Int)<(ords.length:Int):=by omega
       have uA:=(Gg No wr).alloc (.cells #[Qi x.key,.slice x.A x.txs.length x.c] 59);have bo:=Qh (Gh wr 59 [Qi x.key,.slice x.A x.txs.length x.c]);have bH:=Qh ((bH1.out.upd hu2 id).upd uA id);have UA:=Qh (hu2.trans uA);obtain⟨Ar,cr,hrow,how⟩:=yg.out.row x.key;have e1:=ZO ZeI Tryz.underlying179 ZoO (yg.out.is.upd UA.out.drew id) x.key;rw[hrow]at e1;have rQ:=Qh (Ints.of_own how);have ix:=Qh (show(Zm txs x.key).length<=17592186044415 from Nat.le_trans (Zio txs x.key) (by omega));clear hx aQ hrow how;obtain⟨N,hN0⟩:=Qe (ZiK x.txs (Zm txs x.key));have hN:=Qh hN0;have aC:=Qh (show ZdX txs ords k=(ZeU ords k x.key&& !x.txs.isEmpty&&N) by rw[Zrp hlt X.out,<-Zrj,hN0]);clear hN0
       by_cases hk0:k=0
       ·have mZ:=Qh (show ZeU ords k x.key=true by rw[hk0];rfl);have bG:decide ((0:Int)<(k:Int))=false:=Qf (by omega);have nY:decide (0<k)=false:=Qf (by omega);clear hk0 H1
        by_cases hE1:x.txs.length=0
        ·have gE:x.txs=[]:=Et hE1;have hf:Hid (Zc ⟨txs,ords,A,c,some ad,d⟩=false):=Qh (Zd7 (k:=k) hlt (by rw[aC.out,gE];simp));have nE:((x.txs.length:Int)==0)=true:=by rw[beq_iff_eq];omega
         clear hE1 gE;have g1:=bH.out.cell 1;obtain⟨k0,k1⟩:=bo.out.c2;simp only[Qz,Qs]at g1;go_wp2;refine wpS (fun w'=>Upd No w1 w'∧w'.cell? ⟨w.heap.size,1,none⟩=some (.slice (some ad) ords.length d)∧w'.cell? ⟨wr.heap.size,0,none⟩=some (Qi x.key)∧w'.cell? ⟨wr.heap.size,1,none⟩=some (.slice x.A x.txs.length x.c)) ?_ fun jH=>?_
         ·(first|exact⟨UA.out.drew,g1,k0,k1⟩|exact⟨jH.1.trans hu3,hu3.keepNo jH.2.1,hu3.keepNo jH.2.2.1,hu3.keepNo jH.2.2.2⟩)
         (iterate 26 refine wpF ?_);refine wpZ 26 rfl fun K hK=>?_;go_simp;refine hK.out _ _ ?_ fun jH=>?_
         ·exact jH
         try simp only[Qa]
         refine wpZ 27 rfl fun K hK=>?_;go_simp;refine hK.out _ _ ?_ fun jH=>?_
         ·exact jH
         try simp only[Qa]
         (iterate 2 refine wpF ?_);refine wpD (Gd ?_);have HU:=Qh jH.1;clear jH;go_wp2;go_ret;exact⟨by rw[hf.out];rfl,U1.out.trans HU.out⟩
        ·have gE:x.txs.isEmpty=false:=by
          cases hh:x.txs with
          |nil=>rw[hh]at hE1;exact absurd rfl hE1
          |cons a l=>rfl
         have nE:((x.txs.length:Int)==0)=false:=by rw[beq_eq_false_iff_ne];omega
         have uW:=Qh gE;clear hE1 gE
         cases N
         ·have hf:Hid (Zc ⟨txs,ords,A,c,some ad,d⟩=false):=Qh (Zd7 (k:=k) hlt (by rw[aC.out];simp));have g1:=bH.out.cell 1;obtain⟨k0,k1⟩:=bo.out.c2;simp only[Qz,Qs]at g1;go_wp2;refine wpS (fun w'=>Upd No w1 w'∧w'.cell? ⟨w.heap.size,1,none⟩=some (.slice (some ad) ords.length d)∧w'.cell? ⟨wr.heap.size,0,none⟩=some (Qi x.key)∧w'.cell? ⟨wr.heap.size,1,none⟩=some (.slice x.A x.txs.length x.c)) ?_ fun jH=>?_
          ·(first|exact⟨UA.out.drew,g1,k0,k1⟩|exact⟨jH.1.trans hu3,hu3.keepNo jH.2.1,hu3.keepNo jH.2.2.1,hu3.keepNo jH.2.2.2⟩)
          (iterate 26 refine wpF ?_);refine wpZ 26 rfl fun K hK=>?_;go_simp;refine hK.out _ _ ?_ fun jH=>?_
          ·(first|exact⟨UA.out.drew,g1,k0,k1⟩|exact⟨jH.1.trans hu3,hu3.keepNo jH.2.1,hu3.keepNo jH.2.2.1,hu3.keepNo jH.2.2.2⟩)
          try simp only[Qa]
          refine wpZ 27 rfl fun K hK=>?_;go_simp
          (first
  |(go_at_call 122;refine Ck (ZiS (v:=false) (eO.out.1.upd (U1.out.trans jH.1) Qo) (rQ.out.upd jH.1 Qo) eO.out.2.2.1 ix.out hN.out) fun w3 hu3=>?_))
          try (go_wp2_with fail)
          refine hK.out _ _ ?_ fun jH=>?_
          ·(first|exact⟨UA.out.drew,g1,k0,k1⟩|exact⟨jH.1.trans hu3,hu3.keepNo jH.2.1,hu3.keepNo jH.2.2.1,hu3.keepNo jH.2.2.2⟩)
          try simp only[Qa]
          (iterate 2 refine wpF ?_);refine wpD (Gd ?_);have HU:=Qh jH.1;clear jH;go_wp2;go_ret;exact⟨by rw[hf.out];rfl,U1.out.trans HU.out⟩
         ·have HA:=Qh (ZcR iY.out (by rw[aC.out,mZ.out,uW.out];rfl));have g1:=bH.out.cell 1;obtain⟨k0,k1⟩:=bo.out.c2;simp only[Qz,Qs]at g1;go_wp2;refine wpS (fun w'=>Upd No w1 w'∧w'.cell? ⟨w.heap.size,1,none⟩=some (.slice (some ad) ords.length d)∧w'.cell? ⟨wr.heap.size,0,none⟩=some (Qi x.key)∧w'.cell? ⟨wr.heap.size,1,none⟩=some (.slice x.A x.txs.length x.c)) ?_ fun jH=>?_
          ·(first|exact⟨UA.out.drew,g1,k0,k1⟩|exact⟨jH.1.trans hu3,hu3.keepNo jH.2.1,hu3.keepNo jH.2.2.1,hu3.keepNo jH.2.2.2⟩)
          (iterate 26 refine wpF ?_);refine wpZ 26 rfl fun K hK=>?_;go_simp;refine hK.out _ _ ?_ fun jH=>?_
          ·(first|exact⟨UA.out.drew,g1,k0,k1⟩|exact⟨jH.1.trans hu3,hu3.keepNo jH.2.1,hu3.keepNo jH.2.2.1,hu3.keepNo jH.2.2.2⟩)
          try simp only[Qa]
          refine wpZ 27 rfl fun K hK=>?_;go_simp
          (first
  |(go_at_call 122;refine Ck (ZiS (v:=true) (eO.out.1.upd (U1.out.trans jH.1) Qo) (rQ.out.upd jH.1 Qo) eO.out.2.2.1 ix.out hN.out) fun w3 hu3=>?_))
          try (go_wp2_with fail)
          refine hK.out _ _ ?_ fun jH=>?_
          ·(first|exact⟨UA.out.drew,g1,k0,k1⟩|exact⟨jH.1.trans hu3,hu3.keepNo jH.2.1,hu3.keepNo jH.2.2.1,hu3.keepNo jH.2.2.2⟩)
          try simp only[Qa]
          (iterate 2 refine wpF ?_);refine wpD (Gd ?_);have HU:=Qh jH.1;clear jH;go_wp2;go_roundg (gk-1);exact⟨k+1,by omega,by go_num,Qh HA.out,HU.out⟩;omega
       ·obtain⟨ad2,aT,p0,_⟩:=H1.ord_at (k:=k-1) (show k-1<ords.length by omega);simp only at aT p0
        cases aT
        obtain⟨y',jf⟩:∃y',ords[k-1]'(by omega)=y':=⟨_,rfl⟩;rw[jf]at p0
        replace p0:=uA.keepNo p0
        have gR:0<k:=by omega
        by_cases hordL:x.key<=y'.key
        ·have hf:Hid (Zc ⟨txs,ords,A,c,some ad,d⟩=false):=Qh (Zd7 (k:=k) hlt (by rw[aC.out,Zqy gR hlt jf x.key hordL];simp));obtain⟨y,hy⟩:=Qe y'.key;rw[hy]at p0 hordL;clear hy jf H1;have dd:decide (x.key<=y)=true:=Qt hordL;have bG:decide ((0:Int)<(k:Int))=true:=Qt (by omega);have nY:decide (0<k)=true:=Qt (by omega);have au:IntKind.i64.wrap ((k:Int)-1)=(k:Int)-1:=IntWalk.i64_in _ (by omega);have cH:(0:Int)<=(k:Int)-1:=by omega
         have fe:(1:Int)<=(k:Int):=by omega
         have eq:(k:Int)-1<(ords.length:Int):=by omega
         have oU:((k:Int)-1).toNat=k-1:=by omega
         have g1:=bH.out.cell 1;obtain⟨k0,k1⟩:=bo.out.c2;simp only[Qz,Qs]at g1;go_wp2;refine wpS (fun w'=>Upd No w1 w'∧w'.cell? ⟨w.heap.size,1,none⟩=some (.slice (some ad) ords.length d)∧w'.cell? ⟨wr.heap.size,0,none⟩=some (Qi x.key)∧w'.cell? ⟨wr.heap.size,1,none⟩=some (.slice x.A x.txs.length x.c)∧w'.cell? (ad.add ((k-1)*2))=some (Qi y)) ?_ fun jH=>?_
         ·(first|exact⟨UA.out.drew,g1,k0,k1,p0⟩|exact⟨jH.1.trans hu3,hu3.keepNo jH.2.1,hu3.keepNo jH.2.2.1,hu3.keepNo jH.2.2.2.1,hu3.keepNo jH.2.2.2.2⟩)
         (iterate 26 refine wpF ?_);refine wpZ 26 rfl fun K hK=>?_;go_simp;refine hK.out _ _ ?_ fun jH=>?_
         ·exact jH
         try simp only[Qa]
         refine wpZ 27 rfl fun K hK=>?_;go_simp;refine hK.out _ _ ?_ fun jH=>?_
         ·exact jH
         try simp only[Qa]
         (iterate 2 refine wpF ?_);refine wpD (Gd ?_);have HU:=Qh jH.1;clear jH;go_wp2;go_ret;exact⟨by rw[hf.out];rfl,U1.out.trans HU.out⟩
        ·have mZ:Hid (ZeU ords k x.key=true):=Qh (ZoJ gR hlt jf x.key (by omega));obtain⟨y,hy⟩:=Qe y'.key;rw[hy]at p0 hordL;clear hy jf H1;have dd:decide (x.key<=y)=false:=Qf hordL;have bG:decide ((0:Int)<(k:Int))=true:=Qt (by omega);have nY:decide (0<k)=true:=Qt (by omega);have au:IntKind.i64.wrap ((k:Int)-1)=(k:Int)-1:=IntWalk.i64_in _ (by omega);have cH:(0:Int)<=(k:Int)-1:=by omega
         have fe:(1:Int)<=(k:Int):=by omega
         have eq:(k:Int)-1<(ords.length:Int):=by omega
         have oU:((k:Int)-1).toNat=k-1:=by omega
         by_cases hE1:x.txs.length=0
         ·have gE:x.txs=[]:=Et hE1;have hf:Hid (Zc ⟨txs,ords,A,c,some ad,d⟩=false):=Qh (Zd7 (k:=k) hlt (by rw[aC.out,gE];simp));have nE:((x.txs.length:Int)==0)=true:=by rw[beq_iff_eq];omega
          clear hE1 gE;have g1:=bH.out.cell 1;obtain⟨k0,k1⟩:=bo.out.c2;simp only[Qz,Qs]at g1;go_wp2;refine wpS (fun w'=>Upd No w1 w'∧w'.cell? ⟨w.heap.size,1,none⟩=some (.slice (some ad) ords.length d)∧w'.cell? ⟨wr.heap.size,0,none⟩=some (Qi x.key)∧w'.cell? ⟨wr.heap.size,1,none⟩=some (.slice x.A x.txs.length x.c)∧w'.cell? (ad.add ((k-1)*2))=some (Qi y)) ?_ fun jH=>?_
          ·(first|exact⟨UA.out.drew,g1,k0,k1,p0⟩|exact⟨jH.1.trans hu3,hu3.keepNo jH.2.1,hu3.keepNo jH.2.2.1,hu3.keepNo jH.2.2.2.1,hu3.keepNo jH.2.2.2.2⟩)
          (iterate 26 refine wpF ?_);refine wpZ 26 rfl fun K hK=>?_;go_simp;refine hK.out _ _ ?_ fun jH=>?_
          ·exact jH
          try simp only[Qa]
          refine wpZ 27 rfl fun K hK=>?_;go_simp;refine hK.out _ _ ?_ fun jH=>?_
          ·exact jH
          try simp only[Qa]
          (iterate 2 refine wpF ?_);refine wpD (Gd ?_);have HU:=Qh jH.1;clear jH;go_wp2;go_ret;exact⟨by rw[hf.out];rfl,U1.out.trans HU.out⟩
         ·have gE:x.txs.isEmpty=false:=by
           cases hh:x.txs with
           |nil=>rw[hh]at hE1;exact absurd rfl hE1
           |cons a l=>rfl
          have nE:((x.txs.length:Int)==0)=false:=by rw[beq_eq_false_iff_ne];omega
          have uW:=Qh gE;clear hE1 gE
          cases N
          ·have hf:Hid (Zc ⟨txs,ords,A,c,some ad,d⟩=false):=Qh (Zd7 (k:=k) hlt (by rw[aC.out];simp));have g1:=bH.out.cell 1;obtain⟨k0,k1⟩:=bo.out.c2;simp only[Qz,Qs]at g1;go_wp2;refine wpS (fun w'=>Upd No w1 w'∧w'.cell? ⟨w.heap.size,1,none⟩=some (.slice (some ad) ords.length d)∧w'.cell? ⟨wr.heap.size,0,none⟩=some (Qi x.key)∧w'.cell? ⟨wr.heap.size,1,none⟩=some (.slice x.A x.txs.length x.c)∧w'.cell? (ad.add ((k-1)*2))=some (Qi y)) ?_ fun jH=>?_
           ·(first|exact⟨UA.out.drew,g1,k0,k1,p0⟩|exact⟨jH.1.trans hu3,hu3.keepNo jH.2.1,hu3.keepNo jH.2.2.1,hu3.keepNo jH.2.2.2.1,hu3.keepNo jH.2.2.2.2⟩)
           (iterate 26 refine wpF ?_);refine wpZ 26 rfl fun K hK=>?_;go_simp;refine hK.out _ _ ?_ fun jH=>?_
           ·(first|exact⟨UA.out.drew,g1,k0,k1,p0⟩|exact⟨jH.1.trans hu3,hu3.keepNo jH.2.1,hu3.keepNo jH.2.2.1,hu3.keepNo jH.2.2.2.1,hu3.keepNo jH.2.2.2.2⟩)
           try simp only[Qa]
           refine wpZ 27 rfl fun K hK=>?_;go_simp
           (first
  |(go_at_call 122;refine Ck (ZiS (v:=false) (eO.out.1.upd (U1.out.trans jH.1) Qo) (rQ.out.upd jH.1 Qo) eO.out.2.2.1 ix.out hN.out) fun w3 hu3=>?_))
           try (go_wp2_with fail)
           refine hK.out _ _ ?_ fun jH=>?_
           ·(first|exact⟨UA.out.drew,g1,k0,k1,p0⟩|exact⟨jH.1.trans hu3,hu3.keepNo jH.2.1,hu3.keepNo jH.2.2.1,hu3.keepNo jH.2.2.2.1,hu3.keepNo jH.2.2.2.2⟩)
           try simp only[Qa]
           (iterate 2 refine wpF ?_);refine wpD (Gd ?_);have HU:=Qh jH.1;clear jH;go_wp2;go_ret;exact⟨by rw[hf.out];rfl,U1.out.trans HU.out⟩
          ·have HA:=Qh (ZcR iY.out (by rw[aC.out,mZ.out,uW.out];rfl));have g1:=bH.out.cell 1;obtain⟨k0,k1⟩:=bo.out.c2;simp only[Qz,Qs]at g1;go_wp2;refine wpS (fun w'=>Upd No w1 w'∧w'.cell? ⟨w.heap.size,1,none⟩=some (.slice (some ad) ords.length d)∧w'.cell? ⟨wr.heap.size,0,none⟩=some (Qi x.key)∧w'.cell? ⟨wr.heap.size,1,none⟩=some (.slice x.A x.txs.length x.c)∧w'.cell? (ad.add ((k-1)*2))=some (Qi y)) ?_ fun jH=>?_
           ·(first|exact⟨UA.out.drew,g1,k0,k1,p0⟩|exact⟨jH.1.trans hu3,hu3.keepNo jH.2.1,hu3.keepNo jH.2.2.1,hu3.keepNo jH.2.2.2.1,hu3.keepNo jH.2.2.2.2⟩)
           (iterate 26 refine wpF ?_);refine wpZ 26 rfl fun K hK=>?_;go_simp;refine hK.out _ _ ?_ fun jH=>?_
           ·(first|exact⟨UA.out.drew,g1,k0,k1,p0⟩|exact⟨jH.1.trans hu3,hu3.keepNo jH.2.1,hu3.keepNo jH.2.2.1,hu3.keepNo jH.2.2.2.1,hu3.keepNo jH.2.2.2.2⟩)
           try simp only[Qa]
           refine wpZ 27 rfl fun K hK=>?_;go_simp
           (first
  |(go_at_call 122;refine Ck (ZiS (v:=true) (eO.out.1.upd (U1.out.trans jH.1) Qo) (rQ.out.upd jH.1 Qo) eO.out.2.2.1 ix.out hN.out) fun w3 hu3=>?_))
           try (go_wp2_with fail)
           refine hK.out _ _ ?_ fun jH=>?_
           ·(first|exact⟨UA.out.drew,g1,k0,k1,p0⟩|exact⟨jH.1.trans hu3,hu3.keepNo jH.2.1,hu3.keepNo jH.2.2.1,hu3.keepNo jH.2.2.2.1,hu3.keepNo jH.2.2.2.2⟩)
           try simp only[Qa]
           (iterate 2 refine wpF ?_);refine wpD (Gd ?_);have HU:=Qh jH.1;clear jH;go_wp2;go_roundg (gk-1);exact⟨k+1,by omega,by go_num,Qh HA.out,HU.out⟩;omega
      ·obtain rfl:k=ords.length:=by omega
       have hv:=Qh (Zpj (h:=⟨txs,ords,A,c,B,d⟩) (by show txs.length<=4096;omega) jl.out jn.out iY.out);go_wp2;go_ret;exact⟨by rw[hv.out];rfl,U1.out.trans hu2⟩
    ·have hne:((m.length:Int) != (ords.length:Int))=true:=by rw[gX,bne_iff_ne];omega
     have hf:Hid (Zc ⟨txs,ords,A,c,B,d⟩=false):=Qh (Zpk (by show((ZM txs []).length==ords.length)=false;rw[beq_eq_false_iff_ne];exact hle));clear gX hle;go_wp2;go_ret;exact⟨by rw[hf.out];rfl,U1.out⟩
