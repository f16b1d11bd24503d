/- Edges of a history: dsg.list. -/
import Derived.Test.YtdbjokfejmgepaaRabb
import Derived.Test.YtdbjokfejmgepaaRabe
import Derived.Test.YtdbjokfejmgepaaRabi
import Derived.Test.YtdbjokfejmgepaaRabm
namespace Go.Proofs.Ytdbjokfejmgepaa
set_option linter.unusedVariables false
set_option linter.unusedSimpArgs false
section
open Go.RowKit
structure Hvy where
 e:Edge
 n:Int
deriving DecidableEq
def Hvy.cells (h:Hvy):List Value:=[.int .i64 h.e.f,.int .i64 h.e.t,.int .i64 h.e.k,.int .i64 h.e.key,.int .i64 h.n]
def Zc6 (l:List Hvy):List Value:=(l.map Hvy.cells).flatten
theorem ZlF {l:List Hvy}:∀r∈l.map Hvy.cells,r.length=5:=fun r hr=>by
 obtain⟨e,_,rfl⟩:=List.mem_map.1 hr;rfl
theorem ZjK (l:List Hvy) (x:Hvy):Zc6 (l++[x])=Zc6 l++x.cells:=by unfold Zc6;simp
def Hvys (F:Nat→Prop) (w:World) (A:Option Addr) (l:List Hvy):Prop:=Recs F w A 5 (l.map Hvy.cells)
theorem Hvys.upd {F S:Nat→Prop} {w w':World} {A:Option Addr} {l:List Hvy} (h:Hvys F w A l) (k:Upd S w w') (hn:∀i,F i→¬S i):Hvys F w' A l:=Recs.upd h k hn
theorem Zlk:SlT Try.prog 80 101 5 40:=SlT.mk_ Try.underlying80 (z:= .agg #[.int .i64 0,.int .i64 0,.int .i64 0,.int .i64 0,.int .i64 0]) (by kernel_rfl) rfl (by omega)
def Znz (w:World) (l:List Hvy) (e:Ending) (w':World):Prop:=∃A c,e= .returned (.slice A l.length c)∧w'.ownsRow w.heap.size 101 5 (.slice A l.length c) l.length (Zc6 l)∧Upd No w w'
end
/- Edges of a history,the document's:those of a key,without counts;whether two lists are one. -/
section
open Go.RowKit
theorem Hvys.at_ {F:Nat→Prop} {w:World} {A:Option Addr} {l:List Hvy} (h:Hvys F w A l) {k:Nat} (hk:k<l.length):∃ad,A=some ad∧
  w.cell? (ad.add (k*5))=some (.int .i64 l[k].e.f)∧w.cell? ⟨(ad.add (k*5)).block,(ad.add (k*5)).off+1,none⟩=some (.int .i64 l[k].e.t)∧
  w.cell? ⟨(ad.add (k*5)).block,(ad.add (k*5)).off+2,none⟩=some (.int .i64 l[k].e.k)∧w.cell? ⟨(ad.add (k*5)).block,(ad.add (k*5)).off+3,none⟩=some (.int .i64 l[k].e.key)∧
  w.cell? ⟨(ad.add (k*5)).block,(ad.add (k*5)).off+4,none⟩=some (.int .i64 l[k].n):=by
 have hk':k<(l.map Hvy.cells).length:=by simpa using hk
 obtain⟨ad,e,_,_,hc⟩:=Recs.at_ h hk';rw[List.getElem_map]at hc;exact⟨ad,e,by simpa using hc 0 _ rfl,by simpa using hc 1 _ rfl,by simpa using hc 2 _ rfl,by simpa using hc 3 _ rfl,by simpa using hc 4 _ rfl⟩
def ZY (l:List Hvy):List Edge:=l.map (·.e)
theorem Zh4 {l:List Hvy} {k:Nat} {x:Hvy} (hk:k<l.length) (hx:l[k]=x):ZY (l.take (k+1))=ZY (l.take k)++[x.e]:=by
 subst hx;unfold ZY;rw[List.take_succ_eq_append_getElem hk,List.map_append];rfl
def Zek (l:List Edge):List Value:=(l.map Edge.cells).flatten
theorem ZiA (xs:List Edge) (e:Edge):Zek (xs++[e])=Zek xs++e.cells:=by unfold Zek;simp
def ZnA (w:World) (l:List Edge) (e:Ending) (w':World):Prop:=∃A c,e= .returned (.slice A l.length c)∧w'.ownsRow w.heap.size 89 4 (.slice A l.length c) l.length (Zek l)∧Upd No w w'
set_option maxRecDepth 100000 in
set_option maxHeartbeats 4000000 in
theorem Zkj (F:Nat→Prop) (w:World) (A:Option Addr) (c:Nat) (l:List Hvy) (h:Hvys F w A l) (hl:l.length≤1000000):Calls Try.prog 41 #[.slice A l.length c] w (ZnA w (ZY l)):=by
 go_enter Try.func41,Try.ntmps41
 go_wp2
 go_loopg [3,8] l.length (fun gk s i wr=>∃(k:Nat) (A5:Option Addr) (c5:Nat) (xs:List Edge),k+gk=l.length∧i= .int .i64 k∧s= .slice A5 xs.length c5∧Hid (xs=ZY (l.take k))∧Hid (wr.ownsRow w.heap.size 89 4 (.slice A5 xs.length c5) xs.length (Zek xs))∧Upd No w wr)
 case atStart=>exact⟨0,none,0,[],by omega,rfl,rfl,Qh rfl,Qh (World.ownsRow_nil _ _ _ _),Upd.refl _ _⟩
 case round=>
  obtain⟨k,A5,c5,xs,hgk,rfl,rfl,hs,hown,hu⟩:=hrel;have hxl:xs.length≤1000000:=by rw[hs.out];unfold ZY;rw[List.length_map,List.length_take];omega
  by_cases hlt:k<l.length
  ·obtain⟨ax,rfl,q0,q1,q2,q3,q4⟩:=(h.upd hu (fun _ _=>id)).at_ hlt;obtain⟨⟨⟨xf,xt,xk,xy⟩,xn⟩,hxx⟩:∃x,l[k]=x:=⟨_,rfl⟩;rw[hxx]at q0 q1 q2 q3 q4;simp only at q0 q1 q2 q3 q4;have i1:(0:Int)≤(k:Int):=Qn _;have i2:(k:Int)<(l.length:Int):=by omega
   obtain⟨wx,hwx⟩:∃wx,wr.alloc (.cells #[.int .i64 xf,.int .i64 xt,.int .i64 xk,.int .i64 xy,.int .i64 xn] 101)=wx:=⟨_,rfl⟩;have ux:Upd No wr wx:=by rw[←hwx];exact(Upd.refl No wr).alloc _
   have bo:Blk wx wr.heap.size 101 [.int .i64 xf,.int .i64 xt,.int .i64 xk,.int .i64 xy,.int .i64 xn]:=by rw[←hwx];exact Blk.new wr _ _
   have d0:=bo.cell 0;have d1:=bo.cell 1;have d2:=bo.cell 2;have d3:=bo.cell 3;have d4:=bo.cell 4;simp only[Qz,Qs]at d0 d1 d2 d3 d4;have HUX:=Qh (hu.trans ux);have HO:=Qh (Zc hown.out ux (fun _ _=>id));have hsz:=(hu.trans ux).size;have HS:=Qh (show xs++[⟨xf,xt,xk,xy⟩]=ZY (l.take (k+1)) by rw[hs.out];exact(Zh4 hlt hxx).symm);clear hxx bo ux hown
   go_wp2_with (at_builtin;refine ZS rfl rfl ZV (base:=w.heap.size) (v:= .slice A5 xs.length c5) (n:=xs.length) (xs:=Zek xs) (cells:=[.int .i64 xf,.int .i64 xt,.int .i64 xk,.int .i64 xy]) (by rfl) (by rfl) HO.out rfl rfl (by omega) (by omega) (by omega) ?_;intro g9 c9 w9 hown9 hu9 hg9 hlt9)
   go_roundg (gk-1)
   case measure=>omega
   case rel=>
    have hl1:(xs++[(⟨xf,xt,xk,xy⟩:Edge)]).length=xs.length+1:=by simp
    exact⟨k+1,some ⟨g9,0,none⟩,c9,xs++[⟨xf,xt,xk,xy⟩],by omega,by go_num,by rw[hl1],HS,Qh (by rw[hl1,ZiA];exact hown9),HUX.out.then_ hu9 (fun i e=>Or.inr (HO.out.lt i e).1)⟩
  ·obtain rfl:k=l.length:=by omega
   go_wp2
   go_ret
   have h1:=hs.out;rw[List.take_length]at h1;subst h1;exact⟨A5,c5,rfl,hown.out,hu⟩
end
/- Edges of a history,the document's:all keys;all edges. -/
section
open Go.RowKit
def opK (l:List HOp):List Int:=l.map (·.key)
def txK (txs:List HTx):List Int:=txs.flatMap fun t=>opK t.ops
def ZbW (txs:List HTx):List Int:=Zt [] (txK txs)
theorem ZdP (s a b:List Int):Zt s (a++b)=Zt (Zt s a) b:=by
 induction a generalizing s with
 |nil=>rfl
 |cons x a ih=>exact ih _
theorem Zj4 {txs:List HTx} {k:Nat} {x:HTx} (hk:k<txs.length) (hx:txs[k]=x):txK (txs.take (k+1))=txK (txs.take k)++opK x.ops:=by
 subst hx;unfold txK;rw[List.take_succ_eq_append_getElem hk,List.flatMap_append];simp
theorem Zkr {l:List HOp} {k:Nat} {x:HOp} (hk:k<l.length) (hx:l[k]=x):opK (l.take (k+1))=opK (l.take k)++[x.key]:=by
 subst hx;unfold opK;rw[List.take_succ_eq_append_getElem hk,List.map_append];rfl
def Zoa (w:World) (l:List Int) (e:Ending) (w':World):Prop:=∃A c,e= .returned (.slice A l.length c)∧Ints (fun i=>w.heap.size≤i) w' A l∧Upd No w w'
set_option maxRecDepth 100000 in
set_option maxHeartbeats 4000000 in
theorem Zlp (F:Nat→Prop) (w:World) (txs:List HTx) (ords:List HOrd) (A:Option Addr) (c:Nat) (B:Option Addr) (d:Nat) (H:Hist.lies F w ⟨txs,ords,A,c,B,d⟩) (n1:txs.length≤4096) (n2:∀t∈txs,t.ops.length≤4095):
  Calls Try.prog 61 #[.agg #[.slice A txs.length c,.slice B ords.length d]] w (Zoa w (ZbW txs)):=by
 have HH:=Qh H;obtain⟨wb,hwb⟩:∃wb,w.alloc (.cells #[.slice A txs.length c,.slice B ords.length d] 39)=wb:=⟨_,rfl⟩;have u1:Upd No w wb:=by rw[←hwb];exact(Upd.refl No w).alloc _
 have b1:Blk wb w.heap.size 39 [.slice A txs.length c,.slice B ords.length d]:=by rw[←hwb];exact Blk.new w _ _
 have d0:=b1.cell 0;simp only[Qz]at d0;have HU:=Qh u1;clear b1 u1 H
 go_enter Try.func61,Try.ntmps61
 go_wp2
 go_loopg [3,11] txs.length (fun gk s i wr=>∃(k:Nat) (A5:Option Addr) (c5:Nat) (xs:List Int),k+gk=txs.length∧i= .int .i64 k∧s= .slice A5 xs.length c5∧Hid (xs=Zt [] (txK (txs.take k)))∧Hid (xs.length≤4095*k)∧Hid (Ints (fun i=>w.heap.size≤i) wr A5 xs)∧Upd No w wr)
 case atStart=>exact⟨0,none,0,[],by omega,rfl,rfl,Qh rfl,Qh (by simp),Qh Ints.nil_,HU.out⟩
 case round=>
  obtain⟨k,A5,c5,xs,hgk,rfl,rfl,hs,hln,hi,hu⟩:=hrel
  by_cases hlt:k<txs.length
  ·obtain⟨ad,hAd,q0,q1,q2⟩:=(HH.out.upd hu (fun _ _=>id)).tx_at hlt;simp only at hAd q0 q1 q2;have hx2:=n2 _ (List.getElem_mem hlt);have hx0:=HH.out.tx txs[k] (List.getElem_mem hlt);obtain⟨⟨xi,xd,xo,xA,xc⟩,hx⟩:∃x,txs[k]=x:=⟨_,rfl⟩;rw[hx]at q0 q1 q2 hx2 hx0;simp only at q0 q1 q2 hx2;subst hAd;have HX0:=Qh (show HOps F w xA xo from hx0.1);have b1:(0:Int)≤(k:Int):=Qn _;have b2:(k:Int)<(txs.length:Int):=by omega
   obtain⟨wx,hwx⟩:∃wx,wr.alloc (.cells #[.int .i64 xi,.bool xd,.slice xA xo.length xc] 35)=wx:=⟨_,rfl⟩;have ux:Upd No wr wx:=by rw[←hwx];exact(Upd.refl No wr).alloc _
   have bo:Blk wx wr.heap.size 35 [.int .i64 xi,.bool xd,.slice xA xo.length xc]:=by rw[←hwx];exact Blk.new wr _ _
   have t2:=bo.cell 2;simp only[Qz,Qs]at t2;have HUX:=Qh (hu.trans ux);have HIX:=Qh (hi.out.upd ux (fun _ _=>id));have HT:=Qh (Zj4 hlt hx);simp only at HT;have HP:=Qh hs.out;clear hx bo ux hx0 hs hi;obtain⟨wo,hwo⟩:∃wo,wo=wr:=⟨_,rfl⟩;subst hwo
   generalize gk=GK at*
   go_wp2
   go_loopg [3,18] xo.length (fun gj s i wr=>∃(j:Nat) (A5:Option Addr) (c5:Nat) (ys:List Int),j+gj=xo.length∧i= .int .i64 j∧s= .slice A5 ys.length c5∧Hid (ys=Zt xs (opK (xo.take j)))∧Hid (ys.length≤4095*k+j)∧Hid (Ints (fun i=>w.heap.size≤i) wr A5 ys)∧Upd No w wr)
   case atStart=>exact⟨0,A5,c5,xs,by omega,rfl,rfl,Qh rfl,Qh (by have:=hln.out;omega),HIX,HUX.out⟩
   case round=>
    obtain⟨j,A6,c6,ys,hgj,rfl,rfl,hs2,hl2,hi2,hu2⟩:=hrel
    by_cases hltj:j<xo.length
    ·obtain⟨ad2,hAd2,p0,p1,p2,p3⟩:=(HX0.out.upd hu2 (fun _ _=>id)).at_ hltj;obtain⟨⟨yr,yk,yt,yn⟩,hy⟩:∃y,xo[j]=y:=⟨_,rfl⟩;rw[hy]at p0 p1 p2 p3;simp only at p0 p1 p2 p3;subst hAd2;have c1:(0:Int)≤(j:Int):=Qn _;have c2:(j:Int)<(xo.length:Int):=by omega
     obtain⟨wy,hwy⟩:∃wy,wr.alloc (.cells #[.bool yr,.int .i64 yk,.int .i64 yt,.int .i64 yn] 58)=wy:=⟨_,rfl⟩;have uy:Upd No wr wy:=by rw[←hwy];exact(Upd.refl No wr).alloc _
     have bo:Blk wy wr.heap.size 58 [.bool yr,.int .i64 yk,.int .i64 yt,.int .i64 yn]:=by rw[←hwy];exact Blk.new wr _ _
     have o1:=bo.cell 1;simp only[Qz,Qs]at o1;have hys:ys.length≤100000000:=by have:=hl2.out;omega
     have HPT:=Qh (Zhd _ wy A6 c6 ys yk (hi2.out.upd uy (fun _ _=>id)) hys);have HUY:=Qh (hu2.trans uy);have HO:=Qh (show Zd yk ys=Zt xs (opK (xo.take (j+1))) by rw[Zkr hltj hy,ZdP,←hs2.out];rfl);have HLN:=Qh (Zk yk ys);clear hy bo uy
     go_wp2_with fail
     refine(HPT.out).mono ?_;rintro e w5 ⟨A7,c7,rfl,ho7,hu7⟩;have HI7:=Qh ((Ints.of_owned ho7).weak (G:=fun i=>w.heap.size≤i) (fun i _ h=>Nat.le_trans HUY.out.size h));have HU7:=Qh (HUY.out.trans hu7);clear ho7 hu7;go_wp2
     go_roundg (gk-1)
     case measure=>omega
     case rel=>exact⟨j+1,A7,c7,_,by omega,by go_num,rfl,HO,Qh (by have:=HLN.out;have:=hl2.out;omega),HI7,HU7.out⟩
    ·obtain rfl:j=xo.length:=by omega
     have HN:=Qh (show ys=Zt [] (txK (txs.take (k+1))) by rw[HT.out,ZdP,←HP.out];have:=hs2.out;rwa [List.take_length]at this);go_wp2
     go_roundg (GK-1)
     case measure=>omega
     case rel=>exact⟨k+1,A6,c6,ys,by omega,by go_num,rfl,HN,Qh (by have:=hl2.out;omega),hi2,hu2⟩
  ·obtain rfl:k=txs.length:=by omega
   go_wp2
   go_ret
   have h1:=hs.out;rw[List.take_length]at h1;subst h1;exact⟨A5,c5,rfl,hi.out,hu⟩
/-! all edges -/
def hrB (h:Hist) (a kind key:Int) (bs:List HTx):List Hvy:=bs.flatMap fun b=>if 0<Zv h ⟨a,b.id,kind,key⟩ then [⟨⟨a,b.id,kind,key⟩,(Zv h ⟨a,b.id,kind,key⟩:Int)⟩] else []
def hrK (h:Hist) (a kind:Int) (ks:List Int):List Hvy:=ks.flatMap fun key=>hrB h a kind key h.txs
def hrN (h:Hist) (a:Int):Nat→List Hvy
 |0=>[]
 |n+1=>hrN h a n++hrK h a ((n:Int)+1) (ZbW h.txs)
def hrA (h:Hist) (ts:List HTx):List Hvy:=ts.flatMap fun t=>hrN h t.id 3
def ZK (h:Hist):List Hvy:=if Zg h=true then hrA h h.txs else []
theorem ZkC {h:Hist} {a kind key:Int} {bs:List HTx} {k:Nat} {x:HTx} (hk:k<bs.length) (hx:bs[k]=x):hrB h a kind key (bs.take (k+1))=hrB h a kind key (bs.take k)++if 0<Zv h ⟨a,x.id,kind,key⟩ then [⟨⟨a,x.id,kind,key⟩,(Zv h ⟨a,x.id,kind,key⟩:Int)⟩] else []:=by
 subst hx;unfold hrB;rw[List.take_succ_eq_append_getElem hk,List.flatMap_append];simp
theorem ZkB {h:Hist} {a kind:Int} {ks:List Int} {k:Nat} {x:Int} (hk:k<ks.length) (hx:ks[k]=x):hrK h a kind (ks.take (k+1))=hrK h a kind (ks.take k)++hrB h a kind x h.txs:=by
 subst hx;unfold hrK;rw[List.take_succ_eq_append_getElem hk,List.flatMap_append];simp
theorem ZkD {h:Hist} {ts:List HTx} {k:Nat} {x:HTx} (hk:k<ts.length) (hx:ts[k]=x):hrA h (ts.take (k+1))=hrA h (ts.take k)++hrN h x.id 3:=by
 subst hx;unfold hrA;rw[List.take_succ_eq_append_getElem hk,List.flatMap_append];simp
end
/- Edges of a history,in plain words:what is counted is what the document counts. -/
section
open Go.RowKit
theorem Zf2 (key:Int) (e:Edge):∀l:List Int,e∈wwO key l↔e.k=1∧e.key=key∧∃i:Nat,l[i]? =some e.f∧l[i+1]? =some e.t
 |[]=>by simp[wwO]
 |[a]=>by
  simp[wwO]
 |a::b::l=>by
  have ih:=Zf2 key e (b::l)
  show e∈[⟨a,b,1,key⟩]++wwO key (b::l)↔_
  rw[List.mem_append,List.mem_singleton,ih]
  constructor
  ·rintro(rfl|⟨h1,h2,i,h3,h4⟩)
   ·exact⟨rfl,rfl,0,rfl,rfl⟩
   ·exact⟨h1,h2,i+1,h3,h4⟩
  ·rintro⟨h1,h2,i,h3,h4⟩
   cases i with
   |zero=>
    left
    simp at h3 h4;obtain⟨ef,et,ek,ey⟩:=e;simp only at h1 h2 h3 h4;subst h1 h2 h3 h4;rfl
   |succ i=>exact Or.inr ⟨h1,h2,i,h3,h4⟩
theorem Zlz (cnt:Int→Bool) (ords:List HOrd) (e:Edge):e∈wwL cnt ords↔e.k=1∧cnt e.key=true∧∃o∈ords,o.key=e.key∧∃i:Nat,o.txs[i]? =some e.f∧o.txs[i+1]? =some e.t:=by
 unfold wwL;rw[List.mem_flatMap]
 constructor
 ·rintro⟨o,ho,h⟩;unfold wwC at h
  split at h
  ·rename_i hc
   obtain⟨h1,h2,h3⟩:=(Zf2 _ _ _).1 h;exact⟨h1,by rw[h2];exact hc,o,ho,h2.symm,h3⟩
  ·cases h
 ·rintro⟨h1,h2,o,ho,h3,h4⟩;refine⟨o,ho,?_⟩;unfold wwC;rw[if_pos (by rw[h3];exact h2)];exact(Zf2 _ _ _).2 ⟨h1,h3.symm,h4⟩
/-! what was laid last -/
theorem ZfB (p:Int×Int):∀(L:List ((Int×Int)×Int)) (a:Int),(∀e∈L,e.1≠p)→L.foldl (fun a e=>if e.1=p then e.2 else a) a=a
 |[],_,_=>rfl
 |e::L,a,h=>by
  rw[List.foldl_cons,if_neg (h e (List.mem_cons_self ..))];exact ZfB p L a fun x hx=>h x (List.mem_cons_of_mem _ hx)
theorem Zgy (p:Int×Int) (v:Int):∀(L:List ((Int×Int)×Int)) (a:Int),(∀e∈L,e.1=p→e.2=v)→(a=v∨∃e∈L,e.1=p)→L.foldl (fun a e=>if e.1=p then e.2 else a) a=v
 |[],a,_,h=>by
  rcases h with h|⟨e,he,_⟩
  ·exact h
  ·cases he
 |e::L,a,h,h2=>by
  rw[List.foldl_cons];refine Zgy p v L _ (fun x hx=>h x (List.mem_cons_of_mem _ hx)) ?_
  by_cases hp:e.1=p
  ·rw[if_pos hp];exact Or.inl (h e (List.mem_cons_self ..) hp)
  ·rw[if_neg hp];rcases h2 with h2|⟨x,hx,hxp⟩
   ·exact Or.inl h2
   ·rcases List.mem_cons.1 hx with rfl|hx
    ·exact absurd hxp hp
    ·exact Or.inr ⟨x,hx,hxp⟩
theorem Zd2 (key:Int) (e:(Int×Int)×Int):∀(l:List Int) (a:Int),e∈ZdZ key a l↔e.1.1=key∧∃i:Nat,(a::l)[i]? =some e.1.2∧l[i]? =some e.2
 |[],a=>by simp[ZdZ]
 |x::l,a=>by
  show e∈((key,a),x)::ZdZ key x l↔_
  rw[List.mem_cons,Zd2 key e l x]
  constructor
  ·rintro(rfl|⟨h1,i,h2,h3⟩)
   ·exact⟨rfl,0,rfl,rfl⟩
   ·exact⟨h1,i+1,h2,h3⟩
  ·rintro⟨h1,i,h2,h3⟩
   cases i with
   |zero=>
    left
    obtain⟨⟨e1,e2⟩,e3⟩:=e;simp at h1 h2 h3;subst h1 h2 h3;rfl
   |succ i=>exact Or.inr ⟨h1,i,h2,h3⟩
def Nx (ords:List HOrd) (key x y:Int):Prop:=∃o∈ords,o.key=key∧∃i:Nat,(0::o.txs)[i]? =some x∧o.txs[i]? =some y
theorem Zd3 (ords:List HOrd) (key x y:Int):((key,x),y)∈ZJ ords↔Nx ords key x y:=by
 unfold ZJ Nx;rw[List.mem_flatMap]
 constructor
 ·rintro⟨o,ho,h⟩;obtain⟨h1,h2⟩:=(Zd2 _ _ _ _).1 h;exact⟨o,ho,h1.symm,h2⟩
 ·rintro⟨o,ho,h1,h2⟩;exact⟨o,ho,(Zd2 _ _ _ _).2 ⟨h1.symm,h2⟩⟩
section
variable {h:Hist}
theorem Zex (hr:Zg h=true) {i:Nat} (hi:i<h.ords.length):ZgS h.txs h.ords i=true:=by
 unfold Zg at hr;simp only[Bool.and_eq_true,List.all_eq_true,List.mem_range]at hr;exact hr.2 i hi
theorem ZdO (hr:Zg h=true):(h.ords.map (·.key)).Pairwise (·<·):=Zf0 fun j hj=>by
 rw[List.length_map]at hj;have:=((Zdw hj).1 (Zex hr hj)).1 j rfl;rw[show(h.ords.map (·.key)).getD (j+1) 0=h.ords[j+1].key by rw[List.getD_eq_getElem?_getD,List.getElem?_map,Qg hj];rfl];exact this
theorem Zb3 (hr:Zg h=true) {o:HOrd} (ho:o∈h.ords):o.txs.Perm (ZB h.txs o.key):=by
 obtain⟨j,hj,rfl⟩:=List.mem_iff_getElem.1 ho;have:=((Zdw hj).1 (Zex hr hj)).2.2;rw[Zdt,beq_iff_eq]at this;exact(ZN _).symm.trans (this▸ZN _)
theorem Zey (hr:Zg h=true):(h.txs.map (·.id)).Nodup:=Za9 (Zcw hr)
theorem Zfi (hr:Zg h=true) {o:HOrd} (ho:o∈h.ords):o.txs.Nodup:=by
 refine(Zb3 hr ho).nodup_iff.2 ?_;unfold ZB;exact(Zey hr).sublist (List.filter_sublist.map _)
theorem Zbn (hr:Zg h=true) {o:HOrd} (ho:o∈h.ords) {x:Int} (hx:x∈o.txs):∃t,Zs h.txs x=some t∧1≤x:=by
 have h1:=(Zb3 hr ho).mem_iff.1 hx;unfold ZB at h1;obtain⟨t,ht,rfl⟩:=List.mem_map.1 h1;rw[List.mem_filter,Bool.and_eq_true]at ht;refine⟨t,?_,Zhb hr ht.1⟩;unfold Zs;rw[Zfj hr ht.1];simp[ht.2.1]
theorem ZdN (hr:Zg h=true) {o u:HOrd} (ho:o∈h.ords) (hu:u∈h.ords) (hk:o.key=u.key):o=u:=by
 obtain⟨i,hi,rfl⟩:=List.mem_iff_getElem.1 ho;obtain⟨j,hj,rfl⟩:=List.mem_iff_getElem.1 hu;have hp:=List.pairwise_iff_getElem.1 (ZdO hr);rcases Nat.lt_trichotomy i j with h1|h1|h1
 ·have:=hp i j (by simpa using hi) (by simpa using hj) h1;simp only[List.getElem_map]at this;omega
 ·subst h1;rfl
 ·have:=hp j i (by simpa using hj) (by simpa using hi) h1;simp only[List.getElem_map]at this;omega
theorem ZcV {l:List Int} (hn:l.Nodup) {i j:Nat} {x:Int} (h1:l[i]? =some x) (h2:l[j]? =some x):i=j:=by
 obtain⟨hi,e1⟩:=List.getElem?_eq_some_iff.1 h1;obtain⟨hj,e2⟩:=List.getElem?_eq_some_iff.1 h2;exact(List.getElem_inj hn).1 (e1.trans e2.symm)
theorem Zbt (hr:Zg h=true) {o:HOrd} (ho:o∈h.ords):(0::o.txs).Nodup:=by
 refine List.nodup_cons.2 ⟨fun hm=> ?_,Zfi hr ho⟩;obtain⟨_,_,h1⟩:=Zbn hr ho hm;omega
theorem Nx.one (hr:Zg h=true) {key x y z:Int} (h1:Nx h.ords key x y) (h2:Nx h.ords key x z):y=z:=by
 obtain⟨o,ho,hk,i,hi,hy⟩:=h1;obtain⟨u,hu,hk2,j,hj,hz⟩:=h2;obtain rfl:=ZdN hr ho hu (hk.trans hk2.symm);obtain rfl:=ZcV (Zbt hr ho) hi hj;rw[hy]at hz;exact Option.some.inj hz
theorem Nx.ids (hr:Zg h=true) {key x y:Int} (h1:Nx h.ords key x y):(∃t,Zs h.txs y=some t)∧1≤y∧x≠y∧(x=0∨∃t,Zs h.txs x=some t):=by
 obtain⟨o,ho,hk,i,hi,hy⟩:=h1;obtain⟨t,ht,h2⟩:=Zbn hr ho (List.mem_of_getElem? hy);refine⟨⟨t,ht⟩,h2,fun e=> ?_,?_⟩
 ·subst e;have h3:(0::o.txs)[i+1]? =some x:=hy;have:=ZcV (Zbt hr ho) hi h3;omega
 ·cases i with
  |zero=>left;simpa using hi.symm
  |succ i=>
   right
   obtain⟨t2,ht2,_⟩:=Zbn hr ho (List.mem_of_getElem? (show o.txs[i]? =some x from hi));exact⟨t2,ht2⟩
theorem Zio (hr:Zg h=true) (key x:Int):(Z4 (ZJ h.ords) (key,x)=0∧∀y,¬Nx h.ords key x y)∨Nx h.ords key x (Z4 (ZJ h.ords) (key,x)):=by
 by_cases hx:∃y,Nx h.ords key x y
 ·obtain⟨y,hy⟩:=hx
  right
  have:Z4 (ZJ h.ords) (key,x)=y:=by
   unfold Z4;refine Zgy (key,x) y _ 0 (fun e he hp=> ?_) (Or.inr ⟨((key,x),y),(Zd3 _ _ _ _).2 hy,rfl⟩);obtain⟨p,v⟩:=e;simp only at hp;subst hp;exact Nx.one hr ((Zd3 _ _ _ _).1 he) hy
  rw[this];exact hy
 ·left
  refine⟨?_,fun y hy=>hx ⟨y,hy⟩⟩;unfold Z4;refine ZfB (key,x) _ 0 fun e he hp=>hx ⟨e.2,?_⟩
  obtain⟨p,v⟩:=e;simp only at hp;subst hp;exact(Zd3 _ _ _ _).1 he
theorem ZhC (hr:Zg h=true) (key x y:Int) (hy:y≠0):Z4 (ZJ h.ords) (key,x)=y↔Nx h.ords key x y:=by
 rcases Zio hr key x with ⟨h1,h2⟩|h1
 ·rw[h1];exact⟨fun e=>absurd e.symm hy,fun e=>absurd e (h2 y)⟩
 ·constructor
  ·intro e;rw[←e];exact h1
  ·intro e;exact Nx.one hr h1 e
theorem Zhi (hr:Zg h=true) {o:HOrd} (ho:o∈h.ords):Zb5 h.ords o.key=o.txs:=by
 obtain⟨k,hk,rfl⟩:=List.mem_iff_getElem.1 ho;have hp:=List.pairwise_iff_getElem.1 (ZdO hr)
 have:ZeO h.ords h.ords[k].key=k:=Zkp hk (fun j hj=>by
  have:=hp j k (by simp;omega) (by simpa using hk) hj;simp only[List.getElem_map]at this;rw[beq_eq_false_iff_ne];omega) (by simp)
 unfold Zb5;rw[this,Qg hk]
theorem Zhj {key:Int} (hn:∀o∈h.ords,o.key≠key):Zb5 h.ords key=[]:=by
 have:ZeO h.ords key=h.ords.length:=by
  unfold ZeO;rw[List.findIdx_eq_length];intro o ho
  simpa using hn o ho
 unfold Zb5;rw[this,List.getElem?_eq_none (Nat.le_refl _)]
theorem ZjA {l:List Int} (hn:(0::l).Nodup) (x y:Int):ZQ l x=some y↔∃i:Nat,(0::l)[i]? =some x∧l[i]? =some y:=by
 unfold ZQ
 by_cases h0:x=0
 ·subst h0;rw[if_pos rfl]
  constructor
  ·intro h;exact⟨0,rfl,h⟩
  ·rintro⟨i,h1,h2⟩;obtain rfl:=ZcV hn h1 (show(0::l)[0]? =some 0 from rfl);exact h2
 ·rw[if_neg h0]
  by_cases hm:x∈l
  ·obtain⟨k,hk,hx⟩:=List.mem_iff_getElem.1 hm
   have hpos:Zai l x<l.length:=by
    unfold Zai;rw[List.findIdx_lt_length];exact⟨x,hm,by simp⟩
   have hget:l[Zai l x]? =some x:=by
    have:=List.findIdx_getElem (p:=(·==x)) (xs:=l) (w:=hpos);rw[beq_iff_eq]at this;rw[Qg hpos];exact congrArg some this
   rw[if_pos hpos]
   constructor
   ·intro h;exact⟨Zai l x+1,hget,h⟩
   ·rintro⟨i,h1,h2⟩;have:=ZcV hn h1 (show(0::l)[Zai l x+1]? =some x from hget);rw[←this];exact h2
  ·have hpos:¬Zai l x<l.length:=by
    unfold Zai;rw[List.findIdx_lt_length];rintro⟨z,hz,e⟩;simp at e;subst e;exact hm hz
   rw[if_neg hpos]
   constructor
   ·intro h;cases h
   ·rintro⟨i,h1,h2⟩
    cases i with
    |zero=>exact absurd (by simpa using h1.symm) h0
    |succ i=>exact absurd (List.mem_of_getElem? (show l[i]? =some x from h1)) hm
theorem Zcn (hr:Zg h=true) (key x y:Int):ZbQ h.ords key x y=true↔Nx h.ords key x y:=by
 unfold ZbQ;rw[beq_iff_eq]
 by_cases hk:∃o∈h.ords,o.key=key
 ·obtain⟨o,ho,rfl⟩:=hk;rw[Zhi hr ho,ZjA (Zbt hr ho)]
  constructor
  ·intro h1;exact⟨o,ho,rfl,h1⟩
  ·rintro⟨u,hu,hk,h1⟩;obtain rfl:=ZdN hr hu ho hk;exact h1
 ·rw[Zhj (fun o ho e=>hk ⟨o,ho,e⟩)]
  constructor
  ·intro h1;unfold ZQ Zai at h1;simp at h1
  ·rintro⟨u,hu,hk2,_⟩;exact absurd ⟨u,hu,hk2⟩ hk
end
end
/- Edges of a history,in plain words:each is counted as often as the document counts it. -/
section
open Go.RowKit
section
variable {β:Type} [DecidableEq β]
theorem Zeh (f:HTx→List β) (a:β):∀ts:List HTx,(∀u∈ts,Zx (f u) a=0)→Zx (ts.flatMap f) a=0
 |[],_=>rfl
 |u::ts,h=>by
  rw[List.flatMap_cons,ZaM,h u (List.mem_cons_self ..),Zeh f a ts fun x hx=>h x (List.mem_cons_of_mem _ hx)]
theorem Zei (f:HTx→List β) (a:β):∀ts:List HTx,(ts.map (·.id)).Nodup→∀t∈ts,(∀u∈ts,u.id≠t.id→Zx (f u) a=0)→Zx (ts.flatMap f) a=Zx (f t) a
 |[],_,_,ht,_=>by cases ht
 |u::ts,hn,t,ht,h=>by
  rw[List.map_cons,List.nodup_cons]at hn;rw[List.flatMap_cons,ZaM];rcases List.mem_cons.1 ht with rfl|ht
  ·rw[Zeh f a ts fun x hx=>h x (List.mem_cons_of_mem _ hx) fun e=>hn.1 (e▸List.mem_map.2 ⟨x,hx,rfl⟩)];rfl
  ·rw[h u (List.mem_cons_self ..) fun e=>hn.1 (e▸List.mem_map.2 ⟨t,ht,rfl⟩),Zei f a ts hn.2 t ht fun x hx=>h x (List.mem_cons_of_mem _ hx)];omega
end
theorem ZgL (id key:Int):∀l:List HOp,Zx (ZfU id l) (id,key)=(l.filter (isW key)).length
 |[]=>rfl
 |o::l=>by
  have ih:=ZgL id key l;unfold ZfU at ih ⊢
  by_cases h:isW key o=true
  ·have h2:(!o.read)=true∧o.key=key:=by unfold isW at h;simpa using h
   rw[List.filter_cons_of_pos (p:=fun o:HOp=> !o.read) h2.1,List.filter_cons_of_pos h,List.map_cons,List.length_cons,←ih];have:=ZaM [(id,o.key)] ((l.filter fun o=> !o.read).map fun o=>(id,o.key)) (id,key);rw[List.singleton_append]at this;rw[this,ZdH,if_pos (by rw[h2.2])];omega
  ·rw[List.filter_cons_of_neg h,←ih]
   by_cases hr:(!o.read)=true
   ·rw[List.filter_cons_of_pos (p:=fun o:HOp=> !o.read) hr,List.map_cons];have:=ZaM [(id,o.key)] ((l.filter fun o=> !o.read).map fun o=>(id,o.key)) (id,key);rw[List.singleton_append]at this;rw[this,ZdH,if_neg (fun e=>h (by unfold isW;rw[hr];simp[(Prod.mk.inj e).2]))];omega
   ·rw[List.filter_cons_of_neg (p:=fun o:HOp=> !o.read) hr]
theorem ZhR (id i key:Int) (hne:id≠i) (l:List HOp):Zx (ZfU id l) (i,key)=0:=by
 unfold Zx ZfU;rw[List.length_eq_zero_iff,List.filter_eq_nil_iff];intro x hx;obtain⟨o,_,rfl⟩:=List.mem_map.1 hx;simp[hne]
section
variable {h:Hist}
theorem ZcL (hr:Zg h=true) (i:Int):i∈Zax h.txs↔∃t,Zs h.txs i=some t:=by
 unfold Zax;rw[List.mem_map]
 constructor
 ·rintro⟨t,ht,rfl⟩;rw[List.mem_filter]at ht;refine⟨t,?_⟩;unfold Zs;rw[Zfj hr ht.1];simp[ht.2]
 ·rintro⟨t,ht⟩;have h1:=ZbU ht;have h2:=Zdi h1.1;exact⟨t,List.mem_filter.2 ⟨h2.1,h1.2⟩,h2.2⟩
theorem Zee {i:Int} {t:HTx} (ht:Zs h.txs i=some t):t∈h.txs.filter (·.done)∧t.id=i:=by
 have h1:=ZbU ht;have h2:=Zdi h1.1;exact⟨List.mem_filter.2 ⟨h2.1,h1.2⟩,h2.2⟩
theorem ZfI (hr:Zg h=true):((h.txs.filter (·.done)).map (·.id)).Nodup:=(Zey hr).sublist (List.filter_sublist.map _)
theorem Zdl (hr:Zg h=true) {i:Int} {t:HTx} (ht:Zs h.txs i=some t) (key:Int):Zx (Z0 h.txs) (i,key)=Ze t.ops key:=by
 obtain⟨h1,rfl⟩:=Zee ht;unfold Z0;rw[Zei (fun t=>ZfU t.id t.ops) (t.id,key) _ (ZfI hr) t h1 (fun u _ hne=>ZhR _ _ _ hne _),ZgL];unfold Ze wrN;rw[List.take_length]
def Zdg (h:Hist) (o:HOp):Prop:=o.tx=0∨(o.tx∈Zax h.txs∧(Zx (Z0 h.txs) (o.tx,o.key):Int)=o.nth)
instance (o:HOp):Decidable (Zdg h o):=inferInstanceAs (Decidable (_∨_))
theorem ZfC (hr:Zg h=true) (o:HOp):Zdg h o↔ZaV h.txs ⟨o.tx,o.key,o.nth⟩=true:=by
 unfold Zdg ZaV
 by_cases h0:o.tx=0
 ·simp[h0]
 ·rw[if_neg h0,ZcL hr]
  cases hd:Zs h.txs o.tx with
  |none=>simp[h0]
  |some t=>
   have:=Zdl hr hd o.key;rw[this];simp[h0];exact eq_comm
theorem Zjp (ti:Int) (o:HOp) (e:Edge):Zx (Zbo (Zax h.txs) (Z0 h.txs) (ZJ h.ords) ti o) e=
  (if (o.tx≠ti∧Zdg h o)∧o.tx≠0∧e=⟨o.tx,ti,2,o.key⟩ then 1 else 0)+if (o.tx≠ti∧Zdg h o)∧(Z4 (ZJ h.ords) (o.key,o.tx)≠0∧Z4 (ZJ h.ords) (o.key,o.tx)≠ti)∧e=⟨ti,Z4 (ZJ h.ords) (o.key,o.tx),3,o.key⟩ then 1 else 0:=by
 unfold Zbo Zdg
 by_cases h1:o.tx=ti
 ·rw[if_pos h1,if_neg (fun h=>h.1.1 h1),if_neg (fun h=>h.1.1 h1),Zca]
 ·rw[if_neg h1]
  by_cases h2:o.tx≠0∧o.tx∉Zax h.txs
  ·rw[if_pos h2,Zca,if_neg,if_neg]
   ·rintro⟨⟨_,h3|h3⟩,_⟩
    ·exact h2.1 h3
    ·exact h2.2 h3.1
   ·rintro⟨⟨_,h3|h3⟩,_⟩
    ·exact h2.1 h3
    ·exact h2.2 h3.1
  ·rw[if_neg h2]
   by_cases h3:o.tx≠0∧(Zx (Z0 h.txs) (o.tx,o.key):Int)≠o.nth
   ·rw[if_pos h3,Zca,if_neg,if_neg]
    ·rintro⟨⟨_,h4|h4⟩,_⟩
     ·exact h3.1 h4
     ·exact h3.2 h4.2
    ·rintro⟨⟨_,h4|h4⟩,_⟩
     ·exact h3.1 h4
     ·exact h3.2 h4.2
   ·rw[if_neg h3,ZaM]
    have hL:o.tx=0∨(o.tx∈Zax h.txs∧(Zx (Z0 h.txs) (o.tx,o.key):Int)=o.nth):=by
     by_cases h0:o.tx=0
     ·exact Or.inl h0
     ·exact Or.inr ⟨Classical.byContradiction fun hh=>h2 ⟨h0,hh⟩,Classical.byContradiction fun hh=>h3 ⟨h0,hh⟩⟩
    congr 1
    ·by_cases h0:o.tx≠0
     ·rw[if_pos h0,ZdH]
      by_cases he:e=⟨o.tx,ti,2,o.key⟩
      ·rw[if_pos he,if_pos ⟨⟨h1,hL⟩,h0,he⟩]
      ·rw[if_neg he,if_neg (fun hh=>he hh.2.2)]
     ·rw[if_neg h0,Zca,if_neg (fun hh=>h0 hh.2.1)]
    ·by_cases h0:Z4 (ZJ h.ords) (o.key,o.tx)≠0∧Z4 (ZJ h.ords) (o.key,o.tx)≠ti
     ·rw[if_pos h0,ZdH]
      by_cases he:e=⟨ti,Z4 (ZJ h.ords) (o.key,o.tx),3,o.key⟩
      ·rw[if_pos he,if_pos ⟨⟨h1,hL⟩,h0,he⟩]
      ·rw[if_neg he,if_neg (fun hh=>he hh.2.2)]
     ·rw[if_neg h0,Zca,if_neg (fun hh=>h0 hh.2.1)]
theorem Ze3 (f:HOp→List Edge) (e:Edge) (p q:HOp→Bool):∀l:List HOp,(∀o∈l,(if q o=true then Zx (f o) e else 0)=if p o=true then 1 else 0)→Zx ((l.filter q).flatMap f) e=l.countP p
 |[],_=>rfl
 |o::l,hh=>by
  have ih:=Ze3 f e p q l fun x hx=>hh x (List.mem_cons_of_mem _ hx)
  have h1:=hh o (List.mem_cons_self ..);rw[List.countP_cons]
  by_cases hq:q o=true
  ·rw[List.filter_cons_of_pos hq,List.flatMap_cons,ZaM,ih];rw[if_pos hq]at h1;omega
  ·rw[List.filter_cons_of_neg hq,ih];rw[if_neg hq]at h1;omega
theorem Zej (f:HOp→List Edge) (e:Edge) (q:HOp→Bool) (l:List HOp) (hh:∀o∈l,q o=true→Zx (f o) e=0):Zx ((l.filter q).flatMap f) e=0:=by
 rw[Ze3 f e (fun _=>false) q l (fun o ho=>by
  by_cases hq:q o=true
  ·rw[if_pos hq,hh o ho hq];rfl
  ·rw[if_neg hq];rfl)]
 simp
theorem ZaZ (cnt:Int→Bool) (LD:List Int) (LW:List (Int×Int)) (LN:List ((Int×Int)×Int)) (e:Edge) (hh:∀u∈h.txs.filter (·.done),∀o∈u.ops,Zx (Zbo LD LW LN u.id o) e=0):Zx (rdL cnt LD LW LN h.txs) e=0:=by
 unfold rdL;exact Zeh _ _ _ fun u hu=>Zej _ _ _ _ fun o ho _=>hh u hu o ho
theorem Zem (hr:Zg h=true) (cnt:Int→Bool) (LD:List Int) (LW:List (Int×Int)) (LN:List ((Int×Int)×Int)) (e:Edge) {t:HTx} (ht:t∈h.txs.filter (·.done)) (hh:∀u∈h.txs.filter (·.done),u.id≠t.id→∀o∈u.ops,Zx (Zbo LD LW LN u.id o) e=0)
  (p:HOp→Bool) (hp:∀o∈t.ops,(if (o.read&&cnt o.key)=true then Zx (Zbo LD LW LN t.id o) e else 0)=if p o=true then 1 else 0):Zx (rdL cnt LD LW LN h.txs) e=t.ops.countP p:=by
 unfold rdL;rw[Zei (fun t=>rdO cnt LD LW LN t.id t.ops) e _ (ZfI hr) t ht (fun u hu hne=>Zej _ _ _ _ fun o ho _=>hh u hu hne o ho)];exact Ze3 _ _ _ _ _ hp
theorem Zcz (cnt:Int→Bool) (e:Edge) (hr:Zg h=true):e∈wwL cnt h.ords↔e.k=1∧cnt e.key=true∧e.f≠0∧Nx h.ords e.key e.f e.t:=by
 rw[Zlz]
 constructor
 ·rintro⟨h1,h2,o,ho,hk,i,h3,h4⟩;refine⟨h1,h2,fun e0=> ?_,o,ho,hk,i+1,h3,h4⟩;obtain⟨_,_,h5⟩:=Zbn hr ho (List.mem_of_getElem? h3);omega
 ·rintro⟨h1,h2,h0,o,ho,hk,i,h3,h4⟩;refine⟨h1,h2,o,ho,hk,?_⟩
  cases i with
  |zero=>exact absurd (by simpa using h3.symm) h0
  |succ i=>exact⟨i,h3,h4⟩
theorem Zec (hr:Zg h=true) {t:HTx} (ht:Zs h.txs 0=some t):False:=by
 have h1:=Zdi (ZbU ht).1;have:=Zhb hr h1.1;omega
theorem ZlH (hr:Zg h=true) (cnt:Int→Bool) (e:Edge):ZkF cnt h.txs h.ords e=if cnt e.key=true then Zv h e else 0:=by
 obtain⟨ef,et,ek,ey⟩:=e;unfold ZkF;have hro:=Zjp (h:=h)
 by_cases k1:ek=1
 ·subst k1;rw[ZaZ (h:=h) cnt _ _ _ _ (fun u _ o _=>by rw[hro,if_neg (fun hh=>by have:=congrArg Edge.k hh.2.2;simp at this),if_neg (fun hh=>by have:=congrArg Edge.k hh.2.2;simp at this)])];unfold Zhv;rw[Nat.add_zero]
  by_cases hc:cnt ey=true
  ·rw[if_pos hc]
   by_cases hm:(⟨ef,et,1,ey⟩:Edge)∈wwL cnt h.ords
   ·rw[if_pos hm];obtain⟨_,_,h0,hx⟩:=(Zcz cnt _ hr).1 hm;simp only at h0 hx;obtain⟨⟨t,ht⟩,h2,h3,h4⟩:=Nx.ids hr hx;obtain⟨a,ha⟩:=h4.resolve_left h0;unfold Zv;simp only[ha,ht,if_neg h3,if_true,(Zcn hr ey ef et).2 hx]
   ·rw[if_neg hm]
    symm
    unfold Zv
    cases ha:Zs h.txs ef with
    |none=>rfl
    |some a=>
     cases hb:Zs h.txs et with
     |none=>rfl
     |some b=>
      simp only
      split
      ·rfl
      ·simp only[if_true];rw[if_neg];intro hn;have hx:=(Zcn hr ey ef et).1 hn;refine hm ((Zcz cnt _ hr).2 ⟨rfl,hc,fun e0=> ?_,hx⟩);simp only at e0;subst e0;exact Zec hr ha
  ·rw[if_neg hc,if_neg (fun hm=>hc ((Zcz cnt _ hr).1 hm).2.1)]
 ·have hw:Zhv (wwL cnt h.ords) ⟨ef,et,ek,ey⟩=0:=by
   unfold Zhv;rw[if_neg (fun hm=>k1 ((Zcz cnt _ hr).1 hm).1)]
  rw[hw,Nat.zero_add]
  by_cases k2:ek=2
  ·subst k2
   have hz:∀u∈h.txs.filter (·.done),u.id≠et→∀o∈u.ops,Zx (Zbo (Zax h.txs) (Z0 h.txs) (ZJ h.ords) u.id o) (⟨ef,et,2,ey⟩:Edge)=0:=fun u _ hne o _=>by
    rw[hro,if_neg (fun hh=>hne (congrArg Edge.t hh.2.2).symm),if_neg (fun hh=>by have:=congrArg Edge.k hh.2.2;simp at this)]
   cases hb:Zs h.txs et with
   |none=>
    rw[ZaZ (h:=h) cnt _ _ _ _ (fun u hu o ho=>hz u hu (fun e=>by
     have:=(ZcL hr et).1 (by unfold Zax;exact List.mem_map.2 ⟨u,hu,e⟩);rw[hb]at this;obtain⟨_,h9⟩:=this
     cases h9) o ho)]
    unfold Zv;simp only[hb]
    cases Zs h.txs ef<;>simp
   |some b=>
    obtain⟨hbm,hbi⟩:=Zee hb;have hz2:∀u∈h.txs.filter (·.done),u.id≠b.id→∀o∈u.ops,Zx (Zbo (Zax h.txs) (Z0 h.txs) (ZJ h.ords) u.id o) (⟨ef,et,2,ey⟩:Edge)=0:=fun u hu hne=>hz u hu (by rw[←hbi];exact hne)
    cases ha:Zs h.txs ef with
    |none=>
     rw[ZaZ (h:=h) cnt _ _ _ _ (fun u hu o ho=>by
      rw[hro,if_neg (c:=_∧o.tx≠0∧_),if_neg (fun hh=>by have:=congrArg Edge.k hh.2.2;simp at this)];rintro⟨⟨_,h3⟩,h4,h5⟩;rcases h3 with h3|h3
      ·exact h4 h3
      ·obtain⟨_,h6⟩:=(ZcL hr _).1 h3.1;have e1:=congrArg Edge.f h5;simp only at e1;rw[←e1,ha]at h6
       cases h6)]
     unfold Zv;simp[ha]
    |some a=>
     by_cases hft:ef=et
     ·rw[ZaZ (h:=h) cnt _ _ _ _ (fun u hu o ho=>by
       rw[hro,if_neg (c:=_∧o.tx≠0∧_),if_neg (fun hh=>by have:=congrArg Edge.k hh.2.2;simp at this)];rintro⟨⟨h3,_⟩,h4,h5⟩;have e1:=congrArg Edge.f h5;have e2:=congrArg Edge.t h5;simp only at e1 e2;exact h3 (by rw[←e1,←e2,hft]))]
      unfold Zv;simp[hb,hft]
     ·by_cases hc:cnt ey=true
      ·rw[if_pos hc,Zem (h:=h) hr cnt _ _ _ _ hbm hz2 (p2 ef ey (Ze a.ops ey)) (fun o ho=> ?_)]
       ·unfold Zv;simp only[ha,hb,if_neg hft];rfl
       ·rw[hro,if_neg (c:=_∧(_∧_)∧_) (fun hh=>by have:=congrArg Edge.k hh.2.2;simp at this),Nat.add_zero]
        by_cases hp:p2 ef ey (Ze a.ops ey) o=true
        ·rw[if_pos hp];unfold p2 at hp;simp only[Bool.and_eq_true,beq_iff_eq]at hp;obtain⟨⟨⟨q1,q2⟩,q3⟩,q4⟩:=hp;rw[if_pos (by rw[q1,q2,hc];rfl),if_pos];refine⟨⟨by rw[q3,hbi];exact hft,Or.inr ⟨by rw[q3];exact(ZcL hr _).2 ⟨a,ha⟩,?_⟩⟩,fun e0=> ?_,by rw[q3,q2,hbi]⟩
         ·rw[q3,q2,Zdl hr ha];exact q4.symm
         ·rw[q3]at e0;subst e0;exact Zec hr ha
        ·rw[if_neg hp]
         split
         ·rename_i hrd
          rw[if_neg];rintro⟨⟨h3,h4⟩,h5,h6⟩;have e1:=congrArg Edge.f h6;have e2:=congrArg Edge.key h6;simp only at e1 e2
          apply hp
          unfold p2;rcases h4 with h4|⟨h4,h7⟩
          ·exact absurd h4 h5
          ·rw[←e1,←e2,Zdl hr ha]at h7;rw[Bool.and_eq_true]at hrd;simp[hrd.1,←e1,←e2,h7]
         ·rfl
      ·rw[if_neg hc,Zem (h:=h) hr cnt _ _ _ _ hbm hz2 (fun _=>false) (fun o ho=>by
        by_cases hq:(o.read&&cnt o.key)=true
        ·rw[if_pos hq,hro,if_neg,if_neg (fun hh=>by have:=congrArg Edge.k hh.2.2;simp at this)]
         ·rfl
         ·rintro⟨_,_,h6⟩;have e2:=congrArg Edge.key h6;simp only at e2;rw[Bool.and_eq_true,←e2]at hq;exact hc hq.2
        ·rw[if_neg hq];rfl)]
       simp
  ·by_cases k3:ek=3
   ·subst k3
    have hz:∀u∈h.txs.filter (·.done),u.id≠ef→∀o∈u.ops,Zx (Zbo (Zax h.txs) (Z0 h.txs) (ZJ h.ords) u.id o) (⟨ef,et,3,ey⟩:Edge)=0:=fun u _ hne o _=>by
     rw[hro,if_neg (c:=_∧o.tx≠0∧_) (fun hh=>by have:=congrArg Edge.k hh.2.2;simp at this),if_neg (fun hh=>hne (congrArg Edge.f hh.2.2).symm)]
    cases ha:Zs h.txs ef with
    |none=>
     rw[ZaZ (h:=h) cnt _ _ _ _ (fun u hu o ho=>hz u hu (fun e=>by
      have:=(ZcL hr ef).1 (by unfold Zax;exact List.mem_map.2 ⟨u,hu,e⟩);rw[ha]at this;obtain⟨_,h9⟩:=this
      cases h9) o ho)]
     unfold Zv;simp[ha]
    |some a=>
     obtain⟨ham,hai⟩:=Zee ha;have hz2:∀u∈h.txs.filter (·.done),u.id≠a.id→∀o∈u.ops,Zx (Zbo (Zax h.txs) (Z0 h.txs) (ZJ h.ords) u.id o) (⟨ef,et,3,ey⟩:Edge)=0:=fun u hu hne=>hz u hu (by rw[←hai];exact hne)
     cases hb:Zs h.txs et with
     |none=>
      rw[ZaZ (h:=h) cnt _ _ _ _ (fun u hu o ho=>by
       rw[hro,if_neg (c:=_∧o.tx≠0∧_) (fun hh=>by have:=congrArg Edge.k hh.2.2;simp at this),if_neg];rintro⟨_,⟨h3,h4⟩,h5⟩;have e1:=congrArg Edge.t h5;simp only at e1;rcases Zio hr o.key o.tx with h6|h6
       ·exact h3 h6.1
       ·obtain⟨⟨_,h7⟩,_⟩:=Nx.ids hr h6;rw[←e1,hb]at h7
        cases h7)]
      unfold Zv;simp[ha,hb]
     |some b=>
      by_cases hft:ef=et
      ·rw[ZaZ (h:=h) cnt _ _ _ _ (fun u hu o ho=>by
        rw[hro,if_neg (c:=_∧o.tx≠0∧_) (fun hh=>by have:=congrArg Edge.k hh.2.2;simp at this),if_neg];rintro⟨_,⟨h3,h4⟩,h5⟩;have e1:=congrArg Edge.t h5;have e2:=congrArg Edge.f h5;simp only at e1 e2;exact h4 (by rw[←e1,←e2,hft]))]
       unfold Zv;simp[hb,hft]
      ·by_cases hc:cnt ey=true
       ·rw[if_pos hc,Zem (h:=h) hr cnt _ _ _ _ ham hz2 (p3 h a.id ey et) (fun o ho=> ?_)]
        ·unfold Zv;simp only[ha,hb,if_neg hft];rfl
        ·rw[hro,if_neg (c:=_∧o.tx≠0∧_) (fun hh=>by have:=congrArg Edge.k hh.2.2;simp at this),Nat.zero_add];have het:et≠0:=fun e0=>by subst e0;exact Zec hr hb
         by_cases hp:p3 h a.id ey et o=true
         ·rw[if_pos hp];unfold p3 at hp;simp only[Bool.and_eq_true,beq_iff_eq,Bool.not_eq_true',beq_eq_false_iff_ne]at hp;obtain⟨⟨⟨⟨q1,q2⟩,q3⟩,q4⟩,q5⟩:=hp;have hl:=(ZhC hr ey o.tx et het).2 ((Zcn hr _ _ _).1 q5);rw[if_pos (by rw[q1,q2,hc];rfl),if_pos];refine⟨⟨q3,(ZfC hr o).2 q4⟩,⟨by rw[q2,hl];exact het,by rw[q2,hl,hai];exact fun e=>hft e.symm⟩,by rw[q2,hl,hai]⟩
         ·rw[if_neg hp]
          split
          ·rename_i hrd
           rw[if_neg];rintro⟨⟨h3,h4⟩,⟨h5,h6⟩,h7⟩;have e1:=congrArg Edge.t h7;have e2:=congrArg Edge.key h7;simp only at e1 e2
           apply hp
           unfold p3;rw[Bool.and_eq_true]at hrd;have h8:=(ZfC hr o).1 h4;have h9:ZbQ h.ords ey o.tx et=true:=(Zcn hr _ _ _).2 ((ZhC hr ey o.tx et het).1 (by rw[e2];exact e1.symm));simp[hrd.1,←e2,h3,h9];rw[e2];exact h8
          ·rfl
       ·rw[if_neg hc,Zem (h:=h) hr cnt _ _ _ _ ham hz2 (fun _=>false) (fun o ho=>by
         by_cases hq:(o.read&&cnt o.key)=true
         ·rw[if_pos hq,hro,if_neg (c:=_∧o.tx≠0∧_) (fun hh=>by have:=congrArg Edge.k hh.2.2;simp at this),if_neg]
          ·rfl
          ·rintro⟨_,_,h6⟩;have e2:=congrArg Edge.key h6;simp only at e2;rw[Bool.and_eq_true,←e2]at hq;exact hc hq.2
         ·rw[if_neg hq];rfl)]
        simp
   ·rw[ZaZ (h:=h) cnt _ _ _ _ (fun u _ o _=>by rw[hro,if_neg (fun hh=>k2 (congrArg Edge.k hh.2.2)),if_neg (fun hh=>k3 (congrArg Edge.k hh.2.2))])];unfold Zv
    cases Zs h.txs ef<;>cases Zs h.txs et<;>simp[k1,k2,k3]
end
end
end Go.Proofs.Ytdbjokfejmgepaa
