/- Digraphs: the nodes of some ends. -/
import Derived.Test.YtbefgiboikfojaaGreatRcas
import Derived.Test.YtbefgiboikfojaaGreatRcbs
import Derived.Test.YtbefgiboikfojaaGreatRcao
namespace Go.Proofs.YtbefgiboikfojaaGreat
open Go.RowKit
set_option linter.unusedVariables false
set_option linter.unusedSimpArgs false
set_option maxRecDepth 100000
set_option maxHeartbeats 1000000
def ZdA(mask:Int)(l:Gn):Gv:=(l.filter fun e=>Zj mask e.kind).map (·.node)
def ZeG(mask:Int)(l:Gn):Gv:=Lib.compact (Zaj (ZdA mask l))
theorem ZpA{mask:Int}{l:Gn}{k:Nat}{x:DEnd}(hk:k<l.length)(hx:l[k]=x)(hr:Zj mask x.kind=true):ZdA mask (l.take (k+1))=ZdA mask (l.take k)++[x.node]:=by
 subst hx;unfold ZdA;rw[Es hk,List.filter_append,F4,List.filter_cons_of_pos (by rw[hr])];rfl
theorem Zrh{mask:Int}{l:Gn}{k:Nat}{x:DEnd}(hk:k<l.length)(hx:l[k]=x)(hr:Zj mask x.kind=false):ZdA mask (l.take (k+1))=ZdA mask (l.take k):=by
 subst hx;unfold ZdA;rw[Es hk,List.filter_append,F4,List.filter_cons_of_neg (by rw[hr];decide)];simp
theorem ZuB(w:Gy)(mask kind:Int)(h1:1<=kind)(h2:kind<=3):CN 150 #[Qi mask,Qi kind] w (.bool (Zj mask kind)):=
 (dof w mask kind h1 h2).mono fun _ _ h=>⟨h.1,h.2▸Gg No w⟩
theorem ZvH(F:Gt)(w:Gy)(mask:Int)(A:OA)(c:Nat)(l:Gn)(h:DEnds F w A l)(oY:∀e∈l,1<=e.kind∧e.kind<=3)(hl:l.length<=1000000):
  Calls Tryz.prog 177 #[.slice A l.length c,Qi mask] w (Zfn w (ZeG mask l)):=by
 go_enter Tryz.func177,Tryz.ntmps177;go_wp2
 go_loopg [5,10] l.length (fun gk s i wr=>∃(k:Nat) (A5:OA) (c5:Nat) (xs:Gv),k+gk=l.length∧i= Qi k∧s= .slice A5 xs.length c5∧Hid (xs=ZdA mask (l.take k))∧xs.length<=k∧
  wr.ownsRow w.heap.size 3 1 (.slice A5 xs.length c5) xs.length (xs.map (Value.int .i64))∧Upd No w wr)
 case atStart=>exact⟨0,none,0,[],by omega,rfl,rfl,Qh (by simp[ZdA]),by simp,Gf _ _ _ _,Gg _ _⟩
 case round=>
  obtain⟨k,A5,c5,xs,aK,rfl,rfl,aV,hxl,ae,hu⟩:=hrel
  by_cases hlt:k<l.length
  ·obtain⟨ad,aA,q0,q1,q2⟩:=(h.upd hu Qo).at_ hlt;obtain⟨hk1,hk2⟩:=oY _ (Fr hlt);obtain⟨x,hx⟩:=Qe (l[k]);rw[hx]at q0 q1 q2 hk1 hk2;subst aA;have X:=Qh hx;clear hx;have b1:(0:Int)<=(k:Int):=Qn _;have b2:(k:Int)<(l.length:Int):=by omega
   have uA:=(Gg No wr).alloc (.cells #[Qi x.kind,Qi x.label,Qi x.node] 203);have bo:=Gh wr 203 [Qi x.kind,Qi x.label,Qi x.node];have az:=Za ae uA Qo;have g0:=bo.cell 0;simp only[Qz]at g0;have dD:=Qh (fun W=>ZuB W mask x.kind hk1 hk2)
   cases hr:Zj mask x.kind
   ·rw[hr]at dD;have HS:=Qh (Zrh hlt X.out hr);clear hr;go_wp2_with fail;refine Ck (dD.out _) fun w1 hu1=>?_;have dG:=Qh ((hu.trans uA).trans hu1);have am:=Za az hu1 Qo;clear az uA hu1;go_wp2;go_roundg (gk-1);exact⟨k+1,A5,c5,xs,by omega,by go_num,rfl,Qh (by rw[HS.out,aV.out]),by omega,am,dG.out⟩;omega
   ·rw[hr]at dD;have HS:=Qh (ZpA hlt X.out hr);clear hr;go_wp2_with fail;refine Ck (dD.out _) fun w1 hu1=>?_;have bo1:=bo.upd hu1 id;have g1:=bo1.cell 2;simp only[Qz,Qs]at g1;have am:=Za az hu1 Qo;have dj:=(uA.trans hu1).size;have gw:=hu.size;have dG:=Qh ((hu.trans uA).trans hu1);clear az uA hu1;go_wp2_with (at_builtin;refine ZX rfl rfl ZbW (v:= .slice A5 xs.length c5) (cells:=[Qi x.node]) (by rfl) rfl am rfl rfl (by omega) (by omega) (by omega) ?_;intro g' c' w2 aB hu3 eM eL);go_roundg (gk-1)
    case measure=>omega
    case rel=>
     refine⟨k+1,some ⟨g',0,none⟩,c',xs++[x.node],by omega,by go_num,by simp,Qh (by rw[HS.out,aV.out]),by simp;omega,by simpa using aB,dG.out.then_ hu3 fun i e=>?_⟩;exact .inr (am.lt i e).1
  ·obtain rfl:k=l.length:=by omega
   have Hx:=Qh (show xs=ZdA mask l by rw[aV.out,Fj]);clear aV;have iG:=Qh (Zb7 xs);have Hk:=Qh (show Lib.compact (Zaj xs)=ZeG mask l by rw[Hx.out];rfl);go_wp2_with fail;refine(Zi9 _ _ A5 c5 xs ae (by omega)).mono ?_;rintro e w1 ⟨rfl,aW,hu1⟩;have fP:w1.ownsRow w.heap.size 3 1 (.slice A5 (Zaj xs).length c5) (Zaj xs).length ((Zaj xs).map (Value.int .i64)):=by rw[iG.out];exact aW
   have nS:=Zif w1 w.heap.size A5 c5 (Zaj xs) fP (by rw[iG.out];omega);rw[Hk.out,iG.out]at nS;have vi:=Qh nS;have dd:=Qh (show∀i,Own (.slice A5 xs.length c5) i->w.heap.size<=i from fun i e=>(ae.lt i e).1);clear nS aW fP ae;go_wp2_with fail;refine(vi.out).mono ?_;rintro e w2 ⟨rfl,bi,hu2⟩;go_wp2;go_ret;exact⟨A5,c5,rfl,bi,(hu.then_ hu1 fun i e=> .inr (dd.out i e)).then_ hu2 fun i e=> .inr (dd.out i e)⟩
/- Digraphs:the nodes next to one,and those ahead of it. -/
def ZdY(mask:Int)(ls:List (Gn))(i:Int):Gv:=match (if Zay ls.length i then ls[i.toNat]? else none)with|some l=>ZeG mask l|none=>[]
def Zi7(ls:List (Gn)):Prop:=∀l∈ls,∀e∈l,1<=e.kind∧e.kind<=3
theorem ZlR(w w':Gy)(u:Upd No w w'):Zfn w [] (.returned (.slice none 0 0)) w':=⟨none,0,rfl,Gf _ _ _ _,u⟩
section
variable {w:Gy} {G:Gt} {g:Nat} {out inn:List (Gn)} {n:Int} {ob ib:Nat} {oh ih:Gl} {base:Nat}
theorem ZvG(h:GIs w G g out inn n ob ib oh ih base)(hk:Zi7 inn)(i mask:Int):Calls Tryz.prog 148 #[.pointer (some ⟨g,0,none⟩),Qi i,Qi mask] w (Zfn w (ZdY mask inn i)):=by
 have HN:=Qh (Zoy h i);have hlen:=h.len
 by_cases hb:Zay out.length i=true
 ·have d9:=hb;simp only[Zay,Fp,Ff]at d9;obtain⟨j,rfl⟩:∃j:Nat,i=(j:Int):=⟨i.toNat,by omega⟩;have hj:j<inn.length:=by omega
  obtain⟨A,c,dM,ae⟩:=h.ri.2 j hj;have hv:=Qh (show ZdY mask inn (j:Int)=ZeG mask inn[j] by unfold ZdY;rw[hlen,if_pos hb];simp[Qg hj]);have c0:=h.blk.cell 1;have c1:w.cell? ⟨ib,j,none⟩=some (.slice A inn[j].length c):=by rw[h.ib_.cell j];exact dM
  have hc:=Qh (ZvH _ w mask A c inn[j] (Ze9 ae) (hk _ (Fr hj)) (Nat.le_trans (h.few.2.2 _ (Fr hj)) (by omega)));have k1:(0:Int)<=(j:Int):=Qn _;have k2:(j:Int)<(out.length:Int):=by omega
  simp only[Qz,Qs]at c0;rw[hb]at HN;clear hb d9 dM ae h hk hlen;go_enter Tryz.func148,Tryz.ntmps148;go_wp2_with fail;refine(HN.out).mono ?_;rintro e w1 ⟨rfl,rfl⟩;go_wp2_with fail;refine(hc.out).mono ?_;rintro e w2 ⟨A2,c2,rfl,ho,hu⟩;go_wp2;go_ret;rw[hv.out];exact⟨A2,c2,rfl,ho,hu⟩
 ·have d9:Zay out.length i=false:=by simpa using hb
  have hv:=Qh (show ZdY mask inn i=[] by unfold ZdY;rw[hlen,if_neg hb]);rw[d9]at HN;clear hb d9 h hk hlen;go_enter Tryz.func148,Tryz.ntmps148;go_wp2_with fail;refine(HN.out).mono ?_;rintro e w1 ⟨rfl,rfl⟩;go_wp2;go_ret;rw[hv.out];exact ZlR _ _ (Gg _ _)
end
/- Digraphs:the arcs that go out of a node. -/
theorem Zfq:SlT Tryz.prog 125 132 4 32:=SlT.mk_ Tryz.underlying125 (z:= .agg #[Qi 0,Qi 0,Qi 0,Qi 0]) (by kernel_rfl) rfl (by omega)
def ZbT(l:List HArc):Gl:=(l.map HArc.cells).flatten
def ZmF(w:Gy)(l:List HArc)(e:Ending)(w':Gy):Prop:=∃A c,e= .returned (.slice A l.length c)∧w'.ownsRow w.heap.size 132 4 (.slice A l.length c) l.length (ZbT l)∧Upd No w w'
def ZcN(mask i:Int)(l:Gn):List HArc:=(l.filter fun e=>Zj mask e.kind).map fun e=>⟨i,e.node,e.kind,e.label⟩
theorem ZpB{mask i:Int}{l:Gn}{k:Nat}{x:DEnd}(hk:k<l.length)(hx:l[k]=x)(hr:Zj mask x.kind=true):ZcN mask i (l.take (k+1))=ZcN mask i (l.take k)++[⟨i,x.node,x.kind,x.label⟩]:=by
 subst hx;unfold ZcN;rw[Es hk,List.filter_append,F4,List.filter_cons_of_pos (by rw[hr])];rfl
theorem Zri{mask i:Int}{l:Gn}{k:Nat}{x:DEnd}(hk:k<l.length)(hx:l[k]=x)(hr:Zj mask x.kind=false):ZcN mask i (l.take (k+1))=ZcN mask i (l.take k):=by
 subst hx;unfold ZcN;rw[Es hk,List.filter_append,F4,List.filter_cons_of_neg (by rw[hr];decide)];simp
theorem Zk3(l:List HArc):(ZbT l).length=l.length*4:=by
 unfold ZbT
 induction l with
 |nil=>rfl
 |cons a l ih=>simp only[Gb,List.flatten_cons,Fb,Fs,ih];simp[HArc.cells];omega
def Zfg(mask:Int)(ls:List (Gn))(i:Int):List HArc:=match (if Zay ls.length i then ls[i.toNat]? else none)with|some l=>ZcN mask i l|none=>[]
section
variable {w:Gy} {G:Gt} {g:Nat} {out inn:List (Gn)} {n:Int} {ob ib:Nat} {oh ih:Gl} {base:Nat}
theorem Zwq(h:GIs w G g out inn n ob ib oh ih base)(oY:Zi7 out)(i mask:Int):Calls Tryz.prog 112 #[.pointer (some ⟨g,0,none⟩),Qi i,Qi mask] w (ZmF w (Zfg mask out i)):=by
 have HN:=Qh (Zoy h i)
 by_cases hb:Zay out.length i=true
 ·have d9:=hb;simp only[Zay,Fp,Ff]at d9;obtain⟨j,rfl⟩:∃j:Nat,i=(j:Int):=⟨i.toNat,by omega⟩;have hj:j<out.length:=by omega
  obtain⟨A,c,dM,dK⟩:=h.ro.2 j hj;have hv:=Qh (show Zfg mask out (j:Int)=ZcN mask j out[j] by unfold Zfg;rw[if_pos hb];simp[Qg hj]);have c0:=h.blk.cell 0;have c1:w.cell? ⟨ob,j,none⟩=some (.slice A out[j].length c):=by rw[h.ob_.cell j];exact dM
  have ze:=Ze9 dK;have fL:=oY _ (Fr hj);have hl:out[j].length<=1000000:=Nat.le_trans (h.few.2.1 _ (Fr hj)) (by omega);obtain⟨l,xO⟩:=Qe (out[j]);rw[xO]at ze fL hl hv c1;have k1:(0:Int)<=(j:Int):=Qn _;have k2:(j:Int)<(out.length:Int):=by omega
  simp only[Qz]at c0;rw[hb]at HN;clear hb d9 dM dK h oY xO;go_enter Tryz.func112,Tryz.ntmps112;go_wp2_with fail;refine(HN.out).mono ?_;rintro e w1 ⟨rfl,rfl⟩;go_wp2
  go_loopg [7,23] l.length (fun gk s i wr=>∃(k:Nat) (A5:OA) (c5:Nat) (xs:List HArc),k+gk=l.length∧i= Qi k∧s= .slice A5 xs.length c5∧Hid (xs=ZcN mask j (l.take k))∧xs.length<=k∧
   wr.ownsRow w.heap.size 132 4 (.slice A5 xs.length c5) xs.length (ZbT xs)∧Upd No w wr)
  case atStart=>exact⟨0,none,0,[],by omega,rfl,rfl,Qh (by simp[ZcN]),by simp,Gf _ _ _ _,Gg _ _⟩
  case round=>
   obtain⟨k,A5,c5,xs,aK,rfl,rfl,aV,hxl,ae,hu⟩:=hrel
   by_cases hlt:k<l.length
   ·obtain⟨ad,aA,q0,q1,q2⟩:=(ze.upd hu Qo).at_ hlt;obtain⟨hk1,hk2⟩:=fL _ (Fr hlt);obtain⟨x,hx⟩:=Qe (l[k]);rw[hx]at q0 q1 q2 hk1 hk2;subst aA;have X:=Qh hx;clear hx;have b1:(0:Int)<=(k:Int):=Qn _;have b2:(k:Int)<(l.length:Int):=by omega
    have uA:=(Gg No wr).alloc (.cells #[Qi x.kind,Qi x.label,Qi x.node] 203);have bo:=Gh wr 203 [Qi x.kind,Qi x.label,Qi x.node];have az:=Za ae uA Qo;have g0:=bo.cell 0;simp only[Qz]at g0;have dD:=Qh (fun W=>ZuB W mask x.kind hk1 hk2)
    cases hr:Zj mask x.kind
    ·rw[hr]at dD;have HS:=Qh (Zri (i:=(j:Int)) hlt X.out hr);clear hr;go_wp2_with fail;refine Ck (dD.out _) fun w1 hu1=>?_;have dG:=Qh ((hu.trans uA).trans hu1);have am:=Za az hu1 Qo;clear az uA hu1;go_wp2;go_roundg (gk-1);exact⟨k+1,A5,c5,xs,by omega,by go_num,rfl,Qh (by rw[HS.out,aV.out]),by omega,am,dG.out⟩;omega
    ·rw[hr]at dD;have HS:=Qh (ZpB (i:=(j:Int)) hlt X.out hr);clear hr;go_wp2_with fail;refine Ck (dD.out _) fun w1 hu1=>?_;have bo1:=bo.upd hu1 id;obtain⟨g1,g2,g3⟩:=bo1.c3;have am:=Za az hu1 Qo;have dj:=(uA.trans hu1).size;have gw:=hu.size;have dG:=Qh ((hu.trans uA).trans hu1);have HL:=Qh (Zk3 xs);clear az uA hu1 bo1;go_wp2_with (at_builtin;refine ZX rfl rfl Zfq (v:= .slice A5 xs.length c5) (cells:=[Qi (j:Int),Qi x.node,Qi x.kind,Qi x.label]) (by rfl) rfl am rfl rfl (by omega) (by omega) (by omega) ?_;intro g' c' w2 aB hu3 eM eL);go_roundg (gk-1)
     case measure=>omega
     case rel=>
      refine⟨k+1,some ⟨g',0,none⟩,c',xs++[⟨j,x.node,x.kind,x.label⟩],by omega,by go_num,by simp,Qh (by rw[HS.out,aV.out]),by simp;omega,by simpa[ZbT,HArc.cells]using aB,dG.out.then_ hu3 fun i e=>?_⟩;exact .inr (am.lt i e).1
   ·obtain rfl:k=l.length:=by omega
    have Hx:=Qh (show ZcN mask j l=xs by rw[aV.out,Fj]);clear aV;go_wp2;go_ret;rw[hv.out,Hx.out];exact⟨A5,c5,rfl,ae,hu⟩
 ·have d9:Zay out.length i=false:=by simpa using hb
  have hv:=Qh (show Zfg mask out i=[] by unfold Zfg;rw[if_neg hb]);rw[d9]at HN;clear hb d9 h oY;go_enter Tryz.func112,Tryz.ntmps112;go_wp2_with fail;refine(HN.out).mono ?_;rintro e w1 ⟨rfl,rfl⟩;go_wp2;go_ret;rw[hv.out];exact⟨none,0,rfl,Gf _ _ _ _,Gg _ _⟩
end
/- Digraphs:all arcs. -/
theorem ZtC(l:List HArc):∀r∈l.map HArc.cells,r.length=4:=by
 intro r hr;rw[Gc]at hr;obtain⟨a,_,rfl⟩:=hr;rfl
section
variable {w:Gy} {G:Gt} {g:Nat} {out inn:List (Gn)} {n:Int} {ob ib:Nat} {oh ih:Gl} {base:Nat}
end
/- Digraphs:lists of arcs;when two are one. -/
def ArcsL(F:Gt)(w:Gy)(A:OA)(l:List HArc):Prop:=Recs F w A 4 (l.map HArc.cells)
theorem ArcsL.at_{F:Gt}{w:Gy}{A:OA}{l:List HArc}(h:ArcsL F w A l){k:Nat}(hk:k<l.length):∃ad,A=some ad∧
  w.cell? (ad.add (k*4))=some (Qi l[k].f)∧w.cell? ⟨(ad.add (k*4)).block,(ad.add (k*4)).off+1,none⟩=some (Qi l[k].t)∧
  w.cell? ⟨(ad.add (k*4)).block,(ad.add (k*4)).off+2,none⟩=some (Qi l[k].kind)∧w.cell? ⟨(ad.add (k*4)).block,(ad.add (k*4)).off+3,none⟩=some (Qi l[k].label):=by
 have dq:k<(l.map HArc.cells).length:=by simpa using hk
 obtain⟨ad,e,_,_,hc⟩:=Recs.at_ h dq;rw[Fk]at hc;exact⟨ad,e,by simpa using hc 0 _ rfl,by simpa using hc 1 _ rfl,by simpa using hc 2 _ rfl,by simpa using hc 3 _ rfl⟩
theorem ArcsL.upd{F S:Gt}{w w':Gy}{A:OA}{l:List HArc}(h:ArcsL F w A l)(k:Upd S w w')(hn:∀i,F i->¬S i):ArcsL F w' A l:=Recs.upd h k hn
/- The document's digraph:the order of arcs;how many nodes there may be. -/
def Zbb(a b:HArc):Bool:=if a.f=b.f then (if a.kind=b.kind then (if a.label=b.label then decide (a.t<b.t) else decide (a.label<b.label)) else decide (a.kind<b.kind)) else decide (a.f<b.f)
/- A nil digraph. -/
theorem Zny(w:Gy):CE 145 #[.pointer none] w (Qi 0):=by
 go_enter Tryz.func145,Tryz.ntmps145;go_wp2;go_ret;exact⟨rfl,rfl⟩
theorem Zmo(w:Gy)(i:Int):CE 149 #[.pointer none,Qi i] w (.bool false):=by
 have HN:=Qh (Zny w)
 by_cases h0:0<=i
 ·have hb:decide (i<0)=false:=Qf (by omega);go_enter Tryz.func149,Tryz.ntmps149;go_wp2_with fail;refine(HN.out).mono ?_;rintro e w1 ⟨rfl,rfl⟩;go_wp2;go_ret;exact⟨by simp,rfl⟩
 ·have hb:decide (0<=i)=false:=Qf h0;clear h0;go_enter Tryz.func149,Tryz.ntmps149;go_wp2;go_ret;exact⟨rfl,rfl⟩
theorem Ztr(w:Gy)(a:HArc):CN 137 #[.pointer none,.agg a.cells.toArray] w (.bool false):=by
 have HN:=Qh (fun W=>Zmo W a.f);have U0:=Qh ((Gg No w).alloc (.cells a.cells.toArray 132));unfold HArc.cells at*;go_enter Tryz.func137,Tryz.ntmps137;go_wp2_with fail;refine(HN.out _).mono ?_;rintro e w1 ⟨rfl,rfl⟩;go_wp2;go_ret;exact⟨rfl,U0.out⟩
theorem ZvO(w:Gy)(a:HArc):CN 108 #[.pointer none,.agg a.cells.toArray] w (Qi 1):=by
 have HN:=Qh (fun W=>Ztr W a);have U0:=Qh ((Gg No w).alloc (.cells a.cells.toArray 132));unfold HArc.cells at*;go_enter Tryz.func108,Tryz.ntmps108;go_wp2_with fail;refine Ck (HN.out _) fun w1 hu=>?_;have HU:=Qh (U0.out.trans hu);clear hu;go_wp2;go_ret;exact⟨rfl,HU.out⟩
/- Digraphs,plain:arcs in order,and the rows that hold them. -/
/-! lists in strict order -/
theorem Zq0{l m:Gv}(hl:l.Pairwise (·<·))(hm:m.Pairwise (·<·))(h:∀x,x∈l↔x∈m):l=m:=
 ZeN (r:=(·<·)) (fun a=>by omega) (fun a b c=>by omega) hl hm h
theorem Zdm(a b:HArc):Zbb a b=true↔a.f<b.f∨(a.f=b.f∧(a.kind<b.kind∨(a.kind=b.kind∧(a.label<b.label∨(a.label=b.label∧a.t<b.t))))):=by
 unfold Zbb
 split
 ·split
  ·split
   ·simp_all
   ·simp_all
  ·simp_all
 ·simp_all
theorem ZcC(a:HArc):¬Zbb a a=true:=by rw[Zdm];omega
theorem Zd1(a b c:HArc)(h:Zbb a b=true)(k:Zbb b c=true):Zbb a c=true:=by rw[Zdm]at*;omega
theorem ZkA(a b:HArc)(h:¬Zbb a b=true)(k:a≠b):Zbb b a=true:=by
 rw[Zdm]at*
 have:¬(a.f=b.f∧a.kind=b.kind∧a.label=b.label∧a.t=b.t):=by
  rintro⟨e1,e2,e3,e4⟩;obtain⟨af,at',ak,al⟩:=a;obtain⟨bf,bt,bk,bl⟩:=b;simp only at e1 e2 e3 e4;subst e1 e2 e3 e4;exact k rfl
 omega
def Zai(q:List HArc):Prop:=q.Pairwise fun a b=>Zbb a b=true
theorem ZnQ{l m:List HArc}(hl:Zai l)(hm:Zai m)(h:∀x,x∈l↔x∈m):l=m:=ZeN ZcC Zd1 hl hm h
def ZcS(a:HArc):List HArc->List HArc
 |[]=>[a]
 |x::l=>if Zbb x a=true then x::ZcS a l else a::(x::l).filter (fun y=> !(y==a))
theorem Zcd(a b:HArc):∀l,b∈ZcS a l↔b=a∨b∈l
 |[]=>by simp[ZcS]
 |x::l=>by
  have ih:=Zcd a b l;unfold ZcS
  split
  ·simp only[F9,ih];grind
  ·rw[F9,Fw]
   by_cases h:b=a<;>simp[h]
theorem ZdW(a:HArc):∀l,Zai l->Zai (ZcS a l)
 |[],_=>by simp[ZcS,Zai]
 |x::l,h=>by
  have h':=Fd.1 h;unfold ZcS
  split
  ·rename_i hx
   refine Fd.2 ⟨fun b hb=>?_,ZdW a l h'.2⟩;rcases(Zcd a b l).1 hb with rfl|h2
   ·exact hx
   ·exact h'.1 b h2
  ·rename_i hx
   refine Fd.2 ⟨fun b hb=>?_,h.filter _⟩;rw[Fw]at hb;have h1:b≠a:=by simpa using hb.2
   by_cases hxa:x=a
   ·subst hxa;rcases F9.1 hb.1 with rfl|h2
    ·exact absurd rfl h1
    ·exact h'.1 b h2
   ·have h3:=ZkA x a hx hxa;rcases F9.1 hb.1 with rfl|h2
    ·exact h3
    ·exact Zd1 _ _ _ h3 (h'.1 b h2)
theorem ZlI(a:HArc)(l:List HArc):(ZcS a l).length<=l.length+1:=by
 induction l with
 |nil=>simp[ZcS]
 |cons x l ih=>
  unfold ZcS
  split
  ·simp only[Fs]at*;omega
  ·have:=E3 (fun y=> !(y==a)) (x::l);simp only[Fs]at*;omega
theorem ZlH(a:HArc):∀l,a∉l->(ZcS a l).length=l.length+1
 |[],_=>by simp[ZcS]
 |x::l,h=>by
  have ih:=ZlH a l (fun e=>h (E7 _ e));unfold ZcS
  split
  ·simp only[Fs,ih]
  ·rw[List.filter_eq_self.2 (fun y hy=>by
    have:y≠a:=fun e=>h (e▸hy)
    simpa using this)]
   simp
def nxS(node:Int)(back:Bool)(s:Gv):List HArc->List Int
 |[]=>s
 |x::l=>nxS node back (if back=true then (if x.t=node then Zg x.f s else s) else (if x.f=node then Zg x.t s else s)) l
def nxA(node:Int)(back:Bool)(p:List HArc):Gv:=nxS node back [] p
theorem Zhl(node:Int)(back:Bool)(v:Int):∀(l:List HArc) (s:Gv),v∈nxS node back s l↔v∈s∨∃x∈l,(if back then x.t=node∧v=x.f else x.f=node∧v=x.t)
 |[],s=>by simp[nxS]
 |x::l,s=>by
  show v∈nxS node back (if back=true then (if x.t=node then Zg x.f s else s) else (if x.f=node then Zg x.t s else s)) l↔_
  rw[Zhl node back v l]
  cases back
  ·by_cases h:x.f=node<;>simp[h,Zbo]<;>grind
  ·by_cases h:x.t=node<;>simp[h,Zbo]<;>grind
theorem ZpJ(node:Int)(back:Bool):∀(l:List HArc) (s:Gv),s.Pairwise (·<·)->(nxS node back s l).Pairwise (·<·)
 |[],_,h=>h
 |x::l,s,h=>by
  show(nxS node back (if back=true then (if x.t=node then Zg x.f s else s) else (if x.f=node then Zg x.t s else s)) l).Pairwise (·<·)
  apply ZpJ node back l
  cases back
  ·by_cases h2:x.f=node
   ·simpa[h2]using ZdH _ _ h
   ·simpa[h2]using h
  ·by_cases h2:x.t=node
   ·simpa[h2]using ZdH _ _ h
   ·simpa[h2]using h
theorem Znm(node:Int)(back:Bool):∀(l:List HArc) (s:Gv),(nxS node back s l).length<=s.length+l.length
 |[],s=>by simp[nxS]
 |x::l,s=>by
  show(nxS node back (if back=true then (if x.t=node then Zg x.f s else s) else (if x.f=node then Zg x.t s else s)) l).length<=_
  have:=Znm node back l (if back=true then (if x.t=node then Zg x.f s else s) else (if x.f=node then Zg x.t s else s));have h1:=Zq x.f s;have h2:=Zq x.t s
  have:(if back=true then (if x.t=node then Zg x.f s else s) else (if x.f=node then Zg x.t s else s)).length<=s.length+1:=by
   split<;>split<;>omega
  simp only[Fs];omega
/-! rows of ends -/
theorem Zmw(a:DEnd):¬ZaU a a<0:=by rw[Zht];omega
theorem ZrZ(a b:DEnd)(h:¬ZaU a b<0)(k:a≠b):ZaU b a<0:=by
 rw[Zht]at*
 have:¬(a.kind=b.kind∧a.label=b.label∧a.node=b.node):=by
  rintro⟨e1,e2,e3⟩;obtain⟨ak,al,an⟩:=a;obtain⟨bk,bl,bn⟩:=b;simp only at e1 e2 e3;subst e1 e2 e3;exact k rfl
 omega
theorem ZlT(l:Gn)(e x:DEnd):x∈Zfe l e↔x=e∨x∈l:=by
 unfold Zfe Zcu;have:=List.take_append_drop (Z9 l e) l;have h2:x∈l↔x∈l.take (Z9 l e)∨x∈l.drop (Z9 l e):=by rw[<-Fu,this]
 rw[h2];simp only[Fu,Fa]
 grind
theorem ZmS{l:Gn}{p:Nat}{x:DEnd}(h:x∈l.take p):∃k,∃hk:k<l.length,k<p∧l[k]=x:=by
 obtain⟨k,hk,rfl⟩:=E8.1 h;rw[Fl]at hk;exact⟨k,by omega,by omega,by simp⟩
theorem ZmT{l:Gn}{p:Nat}{x:DEnd}(h:x∈l.drop p):∃k,∃hk:k<l.length,p<=k∧l[k]=x:=by
 obtain⟨k,hk,rfl⟩:=E8.1 h;rw[Fo]at hk;exact⟨p+k,by omega,by omega,by simp⟩
theorem Zkh{l:Gn}(h:ZbO l){e:DEnd}(hn:e∉l):ZbO (Zfe l e):=by
 have hp:=ZcM h e;unfold Zfe Zcu ZbO;rw[E5,E5];have h1:(l.take (Z9 l e)++l.drop (Z9 l e)).Pairwise fun a b=>ZaU a b<0:=by rw[List.take_append_drop];exact h
 rw[E5]at h1
 have hd:∀x∈l.drop (Z9 l e),ZaU e x<0:=fun x hx=>by
  obtain⟨k,hk,gR,rfl⟩:=ZmT hx;exact ZrZ _ _ (fun e2=>by have:=(hp.2 k hk).1 e2;omega) (fun e2=>hn (e2▸Fr hk))
 have ht:∀x∈l.take (Z9 l e),ZaU x e<0:=fun x hx=>by
  obtain⟨k,hk,gR,rfl⟩:=ZmS hx;exact(hp.2 k hk).2 gR
 refine⟨⟨h1.1,List.pairwise_singleton _ _,fun a ha b hb=>?_⟩,h1.2.1,fun a ha b hb=>?_⟩
 ·rw[Fa]at hb;subst hb;exact ht a ha
 ·rcases Fu.1 ha with ha|ha
  ·exact h1.2.2 a ha b hb
  ·rw[Fa]at ha;subst ha;exact hd b hb
theorem Zis{l:Gn}(h:ZbO l)(e:DEnd):ZbO (ZeW l e):=by
 unfold ZeW Zla ZbO;have h1:(l.take (Z9 l e)++l.drop (Z9 l e)).Pairwise fun a b=>ZaU a b<0:=by rw[List.take_append_drop];exact h
 rw[E5]at h1;rw[E5]
 have hs:(l.drop (Z9 l e+1)).Sublist (l.drop (Z9 l e)):=by
  have:l.drop (Z9 l e+1)=(l.drop (Z9 l e)).drop 1:=by rw[List.drop_drop]
  rw[this];exact List.drop_sublist _ _
 exact⟨h1.1,h1.2.1.sublist hs,fun a ha b hb=>h1.2.2 a ha b (hs.subset hb)⟩
theorem Zkt{l:Gn}(h:ZbO l){e:DEnd}(hm:e∈l)(x:DEnd):x∈ZeW l e↔x≠e∧x∈l:=by
 have hlt:=Zs2 h hm;have oV:=Zib h e;rw[Qt hm]at oV
 have he:l[Z9 l e]=e:=by
  unfold Zf3 at oV;rw[Qg hlt]at oV;exact(Zhu _ _).1 (by simpa using oV)
 have jq:l=l.take (Z9 l e)++e::l.drop (Z9 l e+1):=by
  have h1:=List.take_append_drop (Z9 l e) l;rw[Ev hlt,he]at h1;exact h1.symm
 have tL:(l.take (Z9 l e)++e::l.drop (Z9 l e+1)).Pairwise fun a b=>ZaU a b<0:=by rw[<-jq];exact h
 rw[E5]at tL;have hc:=Fd.1 tL.2.1
 have hx:x∈l↔x∈l.take (Z9 l e)∨x=e∨x∈l.drop (Z9 l e+1):=by
  conv=>lhs;rw[jq]
  rw[Fu,F9]
 rw[hx];unfold ZeW Zla;rw[Fu]
 constructor
 ·rintro(h1|h1)
  ·exact⟨fun e2=>Zmw e (by have:=tL.2.2 x h1 e Fc;rwa [e2]at this),.inl h1⟩
  ·exact⟨fun e2=>Zmw e (by have:=hc.1 x h1;rwa [e2]at this),.inr (.inr h1)⟩
 ·rintro⟨h1,h2|h2|h2⟩
  ·exact .inl h2
  ·exact absurd h2 h1
  ·exact .inr h2
/- Digraphs,plain:the rows hold just the arcs,whatever is added and dropped. -/
theorem Z0(N:Nat)(a:HArc):Zs N a=true↔0<=a.f∧a.f<(N:Int)∧0<=a.t∧a.t<(N:Int)∧1<=a.kind∧a.kind<=3∧0<=a.label∧a.label<=1048575:=by
 simp only[Zs,Zay,Fp,Ff,and_assoc]
theorem ZaO(i n k l:Int)(a:HArc):(⟨i,n,k,l⟩:HArc)=a↔i=a.f∧n=a.t∧k=a.kind∧l=a.label:=by
 obtain⟨af,at',ak,al⟩:=a;simp
theorem Zhs(e:DEnd)(k l n:Int):e=⟨k,l,n⟩↔e.kind=k∧e.label=l∧e.node=n:=by
 obtain⟨ek,el,en⟩:=e;simp
structure DOk (N K:Nat) (q:List HArc) (out inn:List (List DEnd)):Prop where
 s:Zai q
 r:∀a∈q,Zs N a=true
 lo:out.length=N
 li:inn.length=N
 so:∀l∈out,ZbO l
 si:∀l∈inn,ZbO l
 mo:∀(i:Nat) l,out[i]? =some l->∀e:DEnd,e∈l↔(⟨i,e.node,e.kind,e.label⟩:HArc)∈q
 mi:∀(i:Nat) l,inn[i]? =some l->∀e:DEnd,e∈l↔(⟨e.node,i,e.kind,e.label⟩:HArc)∈q
 fo:∀l∈out,l.length<=K
 fi:∀l∈inn,l.length<=K
 fq:q.length<=K
def Zej(N:Nat)(q:List HArc)(a:HArc):List HArc:=if Zs N a=true then (if a∈q then q else ZcS a q) else q
def ZjV(N:Nat)(q:List HArc)(a:HArc):Int:=if Zs N a=true then (if a∈q then 4 else 0) else 1
def Zou(q:List HArc)(a:HArc):Int:=if a∈q then 0 else 3
theorem ZbD{α:Type}{l:List α}{f:α->α}{i:Nat}{x:α}(h:x∈l.modify i f):x∈l∨∃y∈l,l[i]? =some y∧x=f y:=by
 obtain⟨k,hk,rfl⟩:=E8.1 h;rw[List.length_modify]at hk;rw[List.getElem_modify]
 split
 ·next e=>subst e;exact .inr ⟨l[i],Fr hk,Qg hk,rfl⟩
 ·exact .inl (Fr hk)
theorem Zd0{l m:List (Gn)}{f:Gn->Gn}{i k:Nat}{r:Gn}(h:(l.modify i f)[k]? =some r):(k=i∧∃s,l[k]? =some s∧r=f s)∨(k≠i∧l[k]? =some r):=by
 rw[List.getElem?_modify]at h
 by_cases e:i=k
 ·subst e;simp only[if_true,Option.map_eq_map,Option.map_eq_some_iff]at h;obtain⟨s,h1,rfl⟩:=h;exact .inl ⟨rfl,s,h1,rfl⟩
 ·simp only[if_neg e]at h;exact .inr ⟨fun e2=>e e2.symm,by simpa using h⟩
theorem DOk.nil(N:Nat):DOk N 0 [] (List.replicate N []) (List.replicate N []):=by
 have hm:∀l∈List.replicate N ([]:Gn),l=[]:=fun l h=>(List.mem_replicate.1 h).2
 have hg:∀(i:Nat) l,(List.replicate N ([]:Gn))[i]? =some l->l=[]:=fun i l h=>hm l (E6 h)
 exact⟨List.Pairwise.nil,by simp,by simp,by simp,fun l h=>by rw[hm l h];exact List.Pairwise.nil,fun l h=>by rw[hm l h];exact List.Pairwise.nil,
  fun i l h e=>by rw[hg i l h];simp,fun i l h e=>by rw[hg i l h];simp,fun l h=>by rw[hm l h];simp,fun l h=>by rw[hm l h];simp,by simp⟩
section
variable {N K:Nat} {q:List HArc} {out inn:List (Gn)}
theorem DOk.mono(h:DOk N K q out inn){K':Nat}(hk:K<=K'):DOk N K' q out inn:=
 {h with fo:=fun l hl=>Nat.le_trans (h.fo l hl) hk,fi:=fun l hl=>Nat.le_trans (h.fi l hl) hk,fq:=Nat.le_trans h.fq hk}
theorem DOk.has(h:DOk N K q out inn)(a:HArc):ZeJ out a=decide (a∈q):=by
 unfold ZeJ;rw[h.lo]
 by_cases hr:Zs N a=true
 ·obtain⟨i,j,e1,e2,hi,hj⟩:=ZcY hr;have dp:i<out.length:=by rw[h.lo];exact hi
  rw[hr,e1];simp only[Int.toNat_natCast,Qg dp,Bool.true_and];rw[decide_eq_decide,h.mo i _ (Qg dp)];have:(⟨(i:Int),(Zbu a).node,(Zbu a).kind,(Zbu a).label⟩:HArc)=a:=by rw[ZaO];exact⟨e1.symm,rfl,rfl,rfl⟩
  rw[this]
 ·have hn:a∉q:=fun e=>hr (h.r a e)
  have hf:Zs N a=false:=by simpa using hr
  rw[hf,Qf hn];rfl
theorem DOk.addW_(h:DOk N K q out inn)(a:HArc):Zei out a=ZjV N q a:=by
 unfold Zei ZjV;rw[h.has a,h.lo];simp only[Ff]
theorem DOk.dropW_(h:DOk N K q out inn)(a:HArc):Zk9 out a=Zou q a:=by
 unfold Zk9 Zou;rw[h.has a];simp only[Ff]
theorem Zki{l:Gn}(h:ZbO l)(e:DEnd):(Zfe l e).length=l.length+1:=Zrc l e (ZcM h e)
theorem Zit(l:Gn)(e:DEnd):(ZeW l e).length<=l.length:=by
 unfold ZeW Zla;rw[Fb,Fl,Fo];omega
theorem DOk.add(h:DOk N K q out inn)(a:HArc):DOk N (K+1) (Zej N q a) (Zgl out a) (Zgn out inn a):=by
 unfold Zgl Zgn Zej;rw[h.addW_ a];unfold ZjV
 by_cases hr:Zs N a=true
 ·by_cases hm:a∈q
  ·simp only[if_pos hr,if_pos hm,if_neg (show¬(4:Int)=0 by decide)];exact h.mono (by omega)
  ·simp only[if_pos hr,if_neg hm,if_true];obtain⟨i,j,e1,e2,hi,hj⟩:=ZcY hr;have dp:i<out.length:=by rw[h.lo];exact hi
   have rh:j<inn.length:=by rw[h.li];exact hj
   rw[e1,e2];simp only[Int.toNat_natCast]
   have ao:∀s,out[i]? =some s->Zbu a∉s:=fun s hs=>by
    rw[h.mo i s hs];have:(⟨(i:Int),(Zbu a).node,(Zbu a).kind,(Zbu a).label⟩:HArc)=a:=by rw[ZaO];exact⟨e1.symm,rfl,rfl,rfl⟩
    rw[this];exact hm
   have ai:∀s,inn[j]? =some s->inE a∉s:=fun s hs=>by
    rw[h.mi j s hs];have:(⟨(inE a).node,(j:Int),(inE a).kind,(inE a).label⟩:HArc)=a:=by rw[ZaO];exact⟨rfl,e2.symm,rfl,rfl⟩
    rw[this];exact hm
   constructor
   case s=>exact ZdW a q h.s
   case r=>
    intro b hb;rcases(Zcd a b q).1 hb with rfl|hb
    ·exact hr
    ·exact h.r b hb
   case lo=>simpa using h.lo
   case li=>simpa using h.li
   case so=>
    intro l hl;rcases ZbD hl with hl|⟨y,hy,fW,rfl⟩
    ·exact h.so l hl
    ·exact Zkh (h.so y hy) (ao y fW)
   case si=>
    intro l hl;rcases ZbD hl with hl|⟨y,hy,fW,rfl⟩
    ·exact h.si l hl
    ·exact Zkh (h.si y hy) (ai y fW)
   case mo=>
    intro k l hl e;rcases Zd0 (m:=[]) hl with ⟨rfl,s,hs,rfl⟩|⟨hne,hl⟩
    ·rw[ZlT,Zcd,h.mo k s hs,ZaO,show Zbu a=⟨a.kind,a.label,a.t⟩ from rfl,Zhs]
     constructor
     ·rintro(⟨x1,x2,x3⟩|x)
      ·exact .inl ⟨e1.symm,x3,x1,x2⟩
      ·exact .inr x
     ·rintro(⟨_,x1,x2,x3⟩|x)
      ·exact .inl ⟨x2,x3,x1⟩
      ·exact .inr x
    ·rw[Zcd,h.mo k l hl,ZaO]
     constructor
     ·exact .inr
     ·rintro(⟨x,_⟩|x)
      ·exact absurd (by omega) hne
      ·exact x
   case mi=>
    intro k l hl e;rcases Zd0 (m:=[]) hl with ⟨rfl,s,hs,rfl⟩|⟨hne,hl⟩
    ·rw[ZlT,Zcd,h.mi k s hs,ZaO,show inE a=⟨a.kind,a.label,a.f⟩ from rfl,Zhs]
     constructor
     ·rintro(⟨x1,x2,x3⟩|x)
      ·exact .inl ⟨x3,e2.symm,x1,x2⟩
      ·exact .inr x
     ·rintro(⟨x1,_,x2,x3⟩|x)
      ·exact .inl ⟨x2,x3,x1⟩
      ·exact .inr x
    ·rw[Zcd,h.mi k l hl,ZaO]
     constructor
     ·exact .inr
     ·rintro(⟨_,x,_⟩|x)
      ·exact absurd (by omega) hne
      ·exact x
   case fo=>
    intro l hl;rcases ZbD hl with hl|⟨y,hy,fW,rfl⟩
    ·have:=h.fo l hl;omega
    ·have:=h.fo y hy;rw[Zki (h.so y hy)];omega
   case fi=>
    intro l hl;rcases ZbD hl with hl|⟨y,hy,fW,rfl⟩
    ·have:=h.fi l hl;omega
    ·have:=h.fi y hy;rw[Zki (h.si y hy)];omega
   case fq=>
    have:=ZlI a q;have:=h.fq;omega
 ·simp only[if_neg hr,if_neg (show¬(1:Int)=0 by decide)];exact h.mono (by omega)
theorem DOk.addN_(h:DOk N K q out inn)(a:HArc):Zgm out (q.length:Int) a=((Zej N q a).length:Int):=by
 unfold Zgm Zej;rw[h.addW_ a];unfold ZjV
 by_cases hr:Zs N a=true
 ·by_cases hm:a∈q
  ·simp[hr,hm]
  ·simp only[if_pos hr,if_neg hm,if_true,ZlH a q hm];omega
 ·simp[hr]
theorem DOk.drop(h:DOk N K q out inn)(a:HArc):DOk N K (q.filter fun x=>x != a) (Zsv out a) (Zsw out inn a):=by
 unfold Zsv Zsw;rw[h.dropW_ a];unfold Zou
 by_cases hm:a∈q
 ·simp only[if_pos hm,if_true];obtain⟨i,j,e1,e2,hi,hj⟩:=ZcY (h.r a hm);rw[e1,e2];simp only[Int.toNat_natCast]
  have ao:∀s,out[i]? =some s->Zbu a∈s:=fun s hs=>by
   rw[h.mo i s hs];have:(⟨(i:Int),(Zbu a).node,(Zbu a).kind,(Zbu a).label⟩:HArc)=a:=by rw[ZaO];exact⟨e1.symm,rfl,rfl,rfl⟩
   rw[this];exact hm
  have ai:∀s,inn[j]? =some s->inE a∈s:=fun s hs=>by
   rw[h.mi j s hs];have:(⟨(inE a).node,(j:Int),(inE a).kind,(inE a).label⟩:HArc)=a:=by rw[ZaO];exact⟨rfl,e2.symm,rfl,rfl⟩
   rw[this];exact hm
  constructor
  case s=>exact h.s.filter _
  case r=>exact fun b hb=>h.r b (Fw.1 hb).1
  case lo=>simpa using h.lo
  case li=>simpa using h.li
  case so=>
   intro l hl;rcases ZbD hl with hl|⟨y,hy,fW,rfl⟩
   ·exact h.so l hl
   ·exact Zis (h.so y hy) _
  case si=>
   intro l hl;rcases ZbD hl with hl|⟨y,hy,fW,rfl⟩
   ·exact h.si l hl
   ·exact Zis (h.si y hy) _
  case mo=>
   intro k l hl e;rw[Fw,bne_iff_ne];rcases Zd0 (m:=[]) hl with ⟨rfl,s,hs,rfl⟩|⟨hne,hl⟩
   ·rw[Zkt (h.so s (E6 hs)) (ao s hs),h.mo k s hs,and_comm];refine and_congr_right fun _=>not_congr ?_
    rw[ZaO,show Zbu a=⟨a.kind,a.label,a.t⟩ from rfl,Zhs]
    constructor
    ·rintro⟨x1,x2,x3⟩;exact⟨e1.symm,x3,x1,x2⟩
    ·rintro⟨_,x1,x2,x3⟩;exact⟨x2,x3,x1⟩
   ·rw[h.mo k l hl];refine⟨fun x=>⟨x,fun x2=>?_⟩,fun x=>x.1⟩;rw[ZaO]at x2;exact hne (by omega)
  case mi=>
   intro k l hl e;rw[Fw,bne_iff_ne];rcases Zd0 (m:=[]) hl with ⟨rfl,s,hs,rfl⟩|⟨hne,hl⟩
   ·rw[Zkt (h.si s (E6 hs)) (ai s hs),h.mi k s hs,and_comm];refine and_congr_right fun _=>not_congr ?_
    rw[ZaO,show inE a=⟨a.kind,a.label,a.f⟩ from rfl,Zhs]
    constructor
    ·rintro⟨x1,x2,x3⟩;exact⟨x3,e2.symm,x1,x2⟩
    ·rintro⟨x1,_,x2,x3⟩;exact⟨x2,x3,x1⟩
   ·rw[h.mi k l hl];refine⟨fun x=>⟨x,fun x2=>?_⟩,fun x=>x.1⟩;rw[ZaO]at x2;exact hne (by omega)
  case fo=>
   intro l hl;rcases ZbD hl with hl|⟨y,hy,fW,rfl⟩
   ·exact h.fo l hl
   ·exact Nat.le_trans (Zit _ _) (h.fo y hy)
  case fi=>
   intro l hl;rcases ZbD hl with hl|⟨y,hy,fW,rfl⟩
   ·exact h.fi l hl
   ·exact Nat.le_trans (Zit _ _) (h.fi y hy)
  case fq=>exact Nat.le_trans (E3 _ _) h.fq
 ·simp only[if_neg hm,if_neg (show¬(3:Int)=0 by decide)];rw[List.filter_eq_self.2 (fun x hx=>by rw[bne_iff_ne];exact fun e=>hm (e▸hx))];exact h
theorem DOk.ko(h:DOk N K q out inn):Zi7 out:=fun l hl e he=>by
 obtain⟨i,hi,rfl⟩:=E8.1 hl;have:=h.r _ ((h.mo i _ (Qg hi) e).1 he);rw[Z0]at this;exact⟨this.2.2.2.2.1,this.2.2.2.2.2.1⟩
theorem DOk.ki(h:DOk N K q out inn):Zi7 inn:=fun l hl e he=>by
 obtain⟨i,hi,rfl⟩:=E8.1 hl;have:=h.r _ ((h.mi i _ (Qg hi) e).1 he);rw[Z0]at this;exact⟨this.2.2.2.2.1,this.2.2.2.2.2.1⟩
def ofA(mask:Int)(q:List HArc):List HArc:=q.filter fun x=>Zj mask x.kind
theorem mem_ofA{mask:Int}{q:List HArc}{x:HArc}:x∈ofA mask q↔x∈q∧Zj mask x.kind=true:=by unfold ofA;rw[Fw]
theorem DOk.mem_outD(h:DOk N K q out inn)(mask i:Int)(x:HArc):x∈Zfg mask out i↔x∈q∧Zj mask x.kind=true∧x.f=i:=by
 unfold Zfg
 by_cases hb:Zay out.length i=true
 ·rw[if_pos hb];simp only[Zay,Fp,Ff]at hb;obtain⟨j,rfl⟩:∃j:Nat,i=(j:Int):=⟨i.toNat,by omega⟩;have hj:j<out.length:=by omega
  simp only[Int.toNat_natCast,Qg hj];unfold ZcN;rw[Gc]
  constructor
  ·rintro⟨e,he,rfl⟩;rw[Fw]at he;exact⟨(h.mo j _ (Qg hj) e).1 he.1,he.2,rfl⟩
  ·rintro⟨h1,h2,h3⟩;refine⟨⟨x.kind,x.label,x.t⟩,?_,by rw[ZaO];exact⟨h3.symm,rfl,rfl,rfl⟩⟩;rw[Fw,h.mo j _ (Qg hj)];refine⟨?_,h2⟩;have:(⟨(j:Int),x.t,x.kind,x.label⟩:HArc)=x:=by rw[ZaO];exact⟨h3.symm,rfl,rfl,rfl⟩
   rw[this];exact h1
 ·rw[if_neg hb];simp only[Ft,false_iff];rintro⟨h1,_,h3⟩;have:=(Z0 _ _).1 (h.r x h1)
  apply hb
  simp only[Zay,Fp,Ff,h.lo];omega
theorem DOk.sorted_outD(h:DOk N K q out inn)(mask i:Int):Zai (Zfg mask out i):=by
 unfold Zfg
 split
 ·next l hl=>
  split at hl
  ·have hr:=h.so l (E6 hl);unfold ZcN Zai;rw[List.pairwise_map];refine(hr.filter _).imp fun {a b} hab=>?_
   show Zbb ⟨i,a.node,a.kind,a.label⟩ ⟨i,b.node,b.kind,b.label⟩=true
   rw[Zdm];rw[Zht]at hab
   show i<i∨(i=i∧(a.kind<b.kind∨(a.kind=b.kind∧(a.label<b.label∨(a.label=b.label∧a.node<b.node)))))
   exact .inr ⟨rfl,hab⟩
  ·cases hl
 ·exact List.Pairwise.nil
theorem DOk.outD_(h:DOk N K q out inn)(mask i:Int):Zfg mask out i=(ofA mask q).filter fun x=>x.f==i:=
 ZnQ (h.sorted_outD mask i) ((h.s.filter _).filter _) fun x=>by
  rw[h.mem_outD,Fw,mem_ofA,beq_iff_eq,and_assoc]
theorem Zrt(mask:Int)(ls:List (Gn))(i:Int):(ZdY mask ls i).Pairwise (·<·):=by
 unfold ZdY
 split
 ·unfold ZeG;rw[Zdx];exact ZbX _
 ·exact List.Pairwise.nil
theorem Zn4(mask:Int)(l:Gn)(v:Int):v∈ZeG mask l↔∃e∈l,Zj mask e.kind=true∧v=e.node:=by
 unfold ZeG;rw[Zdx,Zcc];unfold ZdA;rw[Gc]
 constructor
 ·rintro⟨e,he,rfl⟩;rw[Fw]at he;exact⟨e,he.1,he.2,rfl⟩
 ·rintro⟨e,h1,h2,rfl⟩;exact⟨e,Fw.2 ⟨h1,h2⟩,rfl⟩
theorem DOk.mem_prev(h:DOk N K q out inn)(mask i v:Int):v∈ZdY mask inn i↔∃x∈ofA mask q,x.t=i∧v=x.f:=by
 unfold ZdY
 by_cases hb:Zay inn.length i=true
 ·rw[if_pos hb];simp only[Zay,Fp,Ff]at hb;obtain⟨j,rfl⟩:∃j:Nat,i=(j:Int):=⟨i.toNat,by omega⟩;have hj:j<inn.length:=by omega
  simp only[Int.toNat_natCast,Qg hj];rw[Zn4]
  constructor
  ·rintro⟨e,h1,h2,rfl⟩;exact⟨_,mem_ofA.2 ⟨(h.mi j _ (Qg hj) e).1 h1,h2⟩,rfl,rfl⟩
  ·rintro⟨x,h1,h3,rfl⟩;rw[mem_ofA]at h1;refine⟨⟨x.kind,x.label,x.f⟩,?_,h1.2,rfl⟩;rw[h.mi j _ (Qg hj)];have:(⟨x.f,(j:Int),x.kind,x.label⟩:HArc)=x:=by rw[ZaO];exact⟨rfl,h3.symm,rfl,rfl⟩
   rw[this];exact h1.1
 ·rw[if_neg hb];simp only[Ft,false_iff];rintro⟨x,h1,h3,_⟩;rw[mem_ofA]at h1;have:=(Z0 _ _).1 (h.r x h1.1)
  apply hb
  simp only[Zay,Fp,Ff,h.li];omega
theorem DOk.prev_(h:DOk N K q out inn)(mask i:Int):ZdY mask inn i=nxA i true (ofA mask q):=
 Zq0 (Zrt _ _ _) (ZpJ _ _ _ _ List.Pairwise.nil) fun v=>by
  rw[h.mem_prev];unfold nxA;rw[Zhl];simp
end
/- Digraphs:the contracts by the arcs alone,nil or not. -/
theorem ZuA(w:Gy)(i mask:Int):Calls Tryz.prog 148 #[.pointer none,Qi i,Qi mask] w (Zfn w []):=by
 have HN:=Qh (Zmo w i);go_enter Tryz.func148,Tryz.ntmps148;go_wp2_with fail;refine(HN.out).mono ?_;rintro e w1 ⟨rfl,rfl⟩;go_wp2;go_ret;exact ZlR _ _ (Gg _ _)
theorem ZvI(w:Gy)(i mask:Int):Calls Tryz.prog 112 #[.pointer none,Qi i,Qi mask] w (ZmF w []):=by
 have HN:=Qh (Zmo w i);go_enter Tryz.func112,Tryz.ntmps112;go_wp2_with fail;refine(HN.out).mono ?_;rintro e w1 ⟨rfl,rfl⟩;go_wp2;go_ret;exact⟨none,0,rfl,Gf _ _ _ _,Gg _ _⟩
def DGs(w:Gy)(G:Gt)(g N K:Nat)(q:List HArc):Prop:=
 ∃out inn ob ib oh ih base,GIs w G g out inn (q.length:Int) ob ib oh ih base∧DOk N K q out inn∧base<=w.heap.size
def DG(w:Gy)(G:Gt)(p:OA)(N K:Nat)(q:List HArc):Prop:=
 (p=none∧N=0∧q=[])∨∃g,p=some ⟨g,0,none⟩∧DGs w G g N K q
def DTs(w:Gy)(G:Gt)(p:OA)(N K:Nat)(q:List HArc)(r:Gz)(e:Ending)(w':Gy):Prop:=
 ∃G',e= .returned r∧DG w' G' p N K q∧Upd G w w'∧∀k,G' k->G k∨w.heap.size<=k
def ZvX(w:Gy)(N K:Nat)(q:List HArc)(e:Ending)(w':Gy):Prop:=
 ∃G g,e= .returned (.pointer (some ⟨g,0,none⟩))∧DG w' G (some ⟨g,0,none⟩) N K q∧Upd No w w'∧∀k,G k->w.heap.size<=k
theorem DG.nil(w:Gy)(G:Gt):DG w G none 0 0 []:= .inl ⟨rfl,rfl,rfl⟩
section
variable {w:Gy} {G:Gt} {p:OA} {N K:Nat} {q:List HArc}
theorem DG.upd(h:DG w G p N K q){S:Gt}{w':Gy}(k:Upd S w w')(hn:∀i,G i->¬S i):DG w' G p N K q:=by
 rcases h with h|⟨g,rfl,out,inn,ob,ib,oh,ih,base,h1,h2,h3⟩
 ·exact .inl h
 ·exact .inr ⟨g,rfl,out,inn,ob,ib,oh,ih,base,h1.upd k hn,h2,Nat.le_trans h3 k.size⟩
theorem DG.no(h:DG w G p N K q){w':Gy}(k:Upd No w w'):DG w' G p N K q:=h.upd k fun _ _=>id
theorem DG.sorted(h:DG w G p N K q):Zai q:=by
 rcases h with ⟨_,_,rfl⟩|⟨g,rfl,out,inn,ob,ib,oh,ih,base,h1,h2,h3⟩
 ·exact List.Pairwise.nil
 ·exact h2.s
theorem DG.right(h:DG w G p N K q):∀a∈q,Zs N a=true:=by
 rcases h with ⟨_,_,rfl⟩|⟨g,rfl,out,inn,ob,ib,oh,ih,base,h1,h2,h3⟩
 ·simp
 ·exact h2.r
theorem DG.few(h:DG w G p N K q):q.length<=K:=by
 rcases h with ⟨_,_,rfl⟩|⟨g,rfl,out,inn,ob,ib,oh,ih,base,h1,h2,h3⟩
 ·simp
 ·exact h2.fq
theorem DG.nodes_le(h:DG w G p N K q):N<=4096:=by
 rcases h with ⟨_,rfl,rfl⟩|⟨g,rfl,out,inn,ob,ib,oh,ih,base,h1,h2,h3⟩
 ·omega
 ·have:=h1.few.1;have:=h2.lo;omega
theorem DG.old(h:DG w G p N K q)(hp:p≠none):∀k,G k->k<w.heap.size:=by
 rcases h with ⟨rfl,_,rfl⟩|⟨g,rfl,out,inn,ob,ib,oh,ih,base,h1,h2,h3⟩
 ·exact absurd rfl hp
 ·exact h1.old
theorem Zhr(h:DG w G p N K q):CE 145 #[.pointer p] w (Qi (N:Int)):=by
 rcases h with ⟨rfl,rfl,rfl⟩|⟨g,rfl,out,inn,ob,ib,oh,ih,base,h1,h2,h3⟩
 ·exact Zny w
 ·rw[<-h2.lo];exact Zqi h1
theorem Zmq(h:DG w G p N K q)(i mask:Int):Calls Tryz.prog 148 #[.pointer p,Qi i,Qi mask] w (Zfn w (nxA i true (ofA mask q))):=by
 rcases h with ⟨rfl,rfl,rfl⟩|⟨g,rfl,out,inn,ob,ib,oh,ih,base,h1,h2,h3⟩
 ·exact ZuA w i mask
 ·rw[<-h2.prev_];exact ZvG h1 h2.ki i mask
theorem Zsy(h:DG w G p N K q)(i mask:Int):Calls Tryz.prog 112 #[.pointer p,Qi i,Qi mask] w (ZmF w ((ofA mask q).filter fun x=>x.f==i)):=by
 rcases h with ⟨rfl,rfl,rfl⟩|⟨g,rfl,out,inn,ob,ib,oh,ih,base,h1,h2,h3⟩
 ·exact ZvI w i mask
 ·rw[<-h2.outD_];exact Zwq h1 h2.ko i mask
theorem ZvN(h:DG w G p N K q)(hK:K<100000)(a:HArc):Calls Tryz.prog 108 #[.pointer p,.agg a.cells.toArray] w (DTs w G p N (K+1) (Zej N q a) (Qi (ZjV N q a))):=by
 rcases h with ⟨rfl,rfl,rfl⟩|⟨g,rfl,out,inn,ob,ib,oh,ih,base,h1,h2,h3⟩
 ·have hr:¬Zs 0 a=true:=fun e=>by rw[Z0]at e;omega
  refine(ZvO w a).mono ?_;rintro e w' ⟨rfl,hu⟩;exact⟨G,by unfold ZjV;rw[if_neg hr],.inl ⟨rfl,rfl,by unfold Zej;rw[if_neg hr]⟩,hu.mono (fun _ _ e=>e.elim),fun _ e=> .inl e⟩
 ·have hq:=h2.fq;refine(Zwu (n:=q.length) h1 h2.so h2.si ⟨fun l hl=>by have:=h2.fo l hl;omega,fun l hl=>by have:=h2.fi l hl;omega⟩ (by omega) h3 a).mono ?_;rintro e w' ⟨G',oh',ih',rfl,k1,k2,k3⟩;rw[h2.addN_]at k1;exact⟨G',by rw[h2.addW_],.inr ⟨g,rfl,_,_,_,_,_,_,_,k1,h2.add a,Nat.le_trans h3 k2.size⟩,k2,k3⟩
end
theorem ZvM(w:Gy)(n:Int):Calls Tryz.prog 107 #[Qi n] w (ZvX w (Zdy n) 0 []):=by
 refine(Zwr w n).mono ?_;rintro e w' ⟨G,g,ob,ib,oh,ih,rfl,h1,h2,h3⟩;exact⟨G,g,rfl,.inr ⟨g,rfl,_,_,_,_,_,_,_,h1,DOk.nil _,Nat.le_refl _⟩,h2,h3⟩
/- Components of a digraph,the document's,plain:who is reached,labels,members,who goes round. -/
/-! reach:as often as there are arcs,and once more -/
theorem Zgs:∀(l m:Gv),l.Nodup->(∀x∈l,x∈m)->l.length<=m.length
 |[],_,_,_=>Nat.zero_le _
 |x::l,m,hn,hs=>by
  obtain⟨h1,h2⟩:=Fx.1 hn;have hx:=hs x (Fc ..);have:=Zgs l (m.erase x) h2 fun y hy=>(List.mem_erase_of_ne (fun e:y=x=>h1 (by rw[<-e];exact hy))).2 (hs y (E7 _ hy))
  rw[List.length_erase_of_mem hx]at this;have:=Ew hx;rw[Fs];omega
/-! labels -/
theorem IsLab.one{nx:Nat->Gr}{x a b:Nat}(h:IsLab nx x a)(k:IsLab nx x b):a=b:=by
 have h1:=h.2.2 b k.1 k.2.1;have h2:=k.2.2 a h.1 h.2.1;omega
/- Whether a number is among some. -/
theorem Zsk(w:Gy)(F:Gt)(A:OA)(c:Nat)(l:Gv)(a:Int)(h:Ints F w A l)(hl:l.length<=4398046511103):
  CE 94 #[.slice A l.length c,Qi a] w (.bool (decide (a∈l))):=by
 go_enter Tryz.func94,Tryz.ntmps94;go_wp2
 go_loopg [9] l.length (fun gk i wr=>∃k:Nat,k+gk=l.length∧i= Qi k∧Hid (decide (a∈l)=decide (a∈l.drop k))∧w=wr)
 case atStart=>exact⟨0,by omega,rfl,Qh (by simp),rfl⟩
 case round=>
  obtain⟨k,aK,rfl,hs,rfl⟩:=hrel
  by_cases hlt:k<l.length
  ·obtain⟨ax,rfl,kA⟩:=h.at_ hlt;obtain⟨x,hx⟩:=Qe (l[k]);have hd:=Qh (show l.drop k=x::l.drop (k+1) by rw[<-hx];exact Ev hlt);rw[hx]at kA;have b1:(0:Int)<=(k:Int):=Qn _;have b2:(k:Int)<(l.length:Int):=by omega
   clear hx
   by_cases he:x=a
   ·have dO:(x==a)=true:=by rw[he];simp
    have He:=Qh he;clear he;go_wp2;go_ret;exact⟨by rw[hs.out,hd.out,He.out];simp,rfl⟩
   ·have dO:(x==a)=false:=by simpa using he
    have He:=Qh he;clear he;go_wp2;go_roundg (gk-1)
    case measure=>omega
    case rel=>
     refine⟨k+1,by omega,by go_num,Qh ?_,rfl⟩;rw[hs.out,hd.out];have:=He.out;simp only[F9,decide_eq_decide];exact⟨fun e=>e.elim (fun e=>absurd e.symm this) id,.inr⟩
  ·obtain rfl:k=l.length:=by omega
   go_wp2;go_ret;exact⟨by rw[hs.out,Fq];simp,rfl⟩
/- Digraphs:the law of both sides. -/
def DMa(w:Gy)(g N K:Nat)(q:List HArc)(W:Gy):Prop:=
 ∃G,DG W G (some ⟨g,0,none⟩) N K q∧Upd No w W∧∀k,G k->w.heap.size<=k
namespace DMa
variable {w W W':Gy} {g N K:Nat} {q:List HArc}
theorem no(h:DMa w g N K q W)(k:Upd No W W'):DMa w g N K q W':=by
 obtain⟨G,h1,h2,h3⟩:=h;exact⟨G,h1.no k,h2.trans k,h3⟩
theorem upd(h:DMa w g N K q W):Upd No w W:=by
 obtain⟨G,h1,h2,h3⟩:=h;exact h2
theorem is(h:DMa w g N K q W):∃G,DG W G (some ⟨g,0,none⟩) N K q:=by
 obtain⟨G,h1,h2,h3⟩:=h;exact⟨G,h1⟩
end DMa
theorem Zh5(node:Int)(back:Bool)(p:List HArc):(nxA node back p).length<=p.length:=by
 have:=Znm node back p []
 simpa[nxA]using this
theorem Zhc{w:Gy}{base c:Nat}{A:OA}{l:List HArc}(h:w.ownsRow base 132 4 (.slice A l.length c) l.length (ZbT l)):ArcsL (Own (.slice A l.length c)) w A l:=Recs.of_own (n:=l.length) (c:=c) (ZtC l) (by omega) h
