/- Orders, in plain words: what is told goes along, hl1 each id once, and none that goes along is ahead of it. -/
import Derived.Test.YtonblekdfinpkaaGreatSyam
import Derived.Test.YtonblekdfinpkaaGreatSyap
import Derived.Test.YtonblekdfinpkaaGreatSyax
import Derived.Test.YtonblekdfinpkaaGreatSyba
import Derived.Test.YtonblekdfinpkaaGreatSybe
import Derived.Test.YtonblekdfinpkaaGreatSybg
import Derived.Test.YtonblekdfinpkaaGreatSybj
import Derived.Test.YtonblekdfinpkaaGreatSybm
import Derived.Test.YtonblekdfinpkaaGreatSybn
namespace Go.Proofs.YtonblekdfinpkaaGreat
set_option linter.unusedVariables false
set_option linter.unusedSimpArgs false
section
open Go.RowKit
def Zjw (l:List Edge):List Int→List Int→Prop
 |L,[]=>L=[]
 |L,x::p=>L.find? (ZF l L)=some x∧Zjw l (L.erase x) p
theorem Zis (l:List Edge):∀(n:Nat) (L out a:List Int),n=L.length→ZcQ l n L out=some a→∃p,a=out++p∧Zjw l L p
 |0,L,out,a,hn,h=>by
  have:L=[]:=List.eq_nil_of_length_eq_zero hn.symm
  cases h
  exact⟨[],by simp,this⟩
 |n+1,L,out,a,hn,h=>by
  unfold ZcQ at h
  cases hf:L.find? (ZF l L)with
  |none=>rw[hf]at h;cases h
  |some x=>
   rw[hf]at h;have hx:=List.mem_of_find?_eq_some hf;obtain⟨p,hp,hg⟩:=Zis l n (L.erase x) (out++[x]) a (by rw[List.length_erase_of_mem hx];omega) h;exact⟨x::p,by rw[hp];simp,hf,hg⟩
theorem Zd3 (l:List Edge):∀(p L:List Int),Zjw l L p→p.Perm L
 |[],L,h=>by rw[show L=[] from h]
 |x::p,L,h=>by
  have hx:=List.mem_of_find?_eq_some h.1;exact((Zd3 l p _ h.2).cons x).trans (List.perm_cons_erase hx).symm
theorem Zgh {ids:List Int} {l:List Edge} {a:List Int} (h:Zbk ids l=some a):Zjw l (Zam ids) a:=by
 obtain⟨p,hp,hg⟩:=Zis l _ _ _ _ rfl h;rw[List.nil_append]at hp;rw[hp];exact hg
theorem Zlh {ids:List Int} {l:List Edge} {a:List Int} (h:Zbk ids l=some a) (x:Int):x∈a↔x∈ids:=by
 rw[(Zd3 _ _ _ (Zgh h)).mem_iff,ZaC]
theorem ZiN {ids:List Int} {l:List Edge} {a:List Int} (h:Zbk ids l=some a):a.Nodup:=(Zd3 _ _ _ (Zgh h)).nodup_iff.2 (Zad (ZaR ids))
end
/- Phenomena,plain:one brings another;where there is an order that goes along there is none. -/
section
theorem RchE.mono {D D':List Edge} (h:∀e∈D,e∈D') {x y:Int} (k:RchE D x y):RchE D' x y:=by
 induction k with
 |refl=>exact RchE.refl _
 |step _ h2 h3 ih=>exact ih.step (h _ h2) h3
end
/- Orders:what is kept while topo.Order runs. -/
section
open Go.RowKit
def ZgR (w:World) (o:List Int×Int) (e:Ending) (w':World):Prop:=
 ∃A c,e= .returned (.tuple #[.slice A o.1.length c,.int .i64 o.2])∧w'.ownsRow w.heap.size 3 1 (.slice A o.1.length c) o.1.length (o.1.map (Value.int .i64))∧Upd No w w'
structure NextIs (w:World) (b z:Nat) (m:List (Int×Value)) (f:Int→List Int):Prop where
 is:MapIs w b (fun n:Int=>Value.int .i64 n) m
 row:∀key,∃A c,(Zn m key).getD (.slice none 0 0)= .slice A (f key).length c∧Ints (fun i=>b<i∧i<z) w A (f key)
theorem NextIs.upd {S:Nat→Prop} {w w':World} {b z:Nat} {m:List (Int×Value)} {f:Int→List Int} (h:NextIs w b z m f) (k:Upd S w w') (hS:∀i,b≤i→i<z→¬S i) (hz:b<z):NextIs w' b z m f:=by
 refine⟨h.is.upd k (hS b (Nat.le_refl _) hz),fun key=> ?_⟩;obtain⟨A,c,h1,h2⟩:=h.row key;exact⟨A,c,h1,h2.upd k fun i hi=>hS i (Nat.le_of_lt hi.1) hi.2⟩
theorem MapSl.next {w:World} {b z:Nat} {m:List (Int×Value)} {f:Int→List Int} (h:MapSl w (b+1) b m f) (hz:w.heap.size≤z):NextIs w b z m f:=by
 refine⟨h.is,fun key=> ?_⟩;obtain⟨A,c,h1,h2⟩:=h.row key;exact⟨A,c,h1,(Ints.of_own h2).weak fun i hi hb=>⟨by omega,by omega⟩⟩
theorem ZeX (w:World):(zeroValue 3).run Tryz.prog w= .ok (.int .i64 0) w:=by kernel_rfl
def GMap (m:List (Int×Value)) (ids:List Int) (g:Int→Int):Prop:=∀x,Zn m x=if x∈ids then some (.int .i64 (g x)) else none
theorem GMap.get {m:List (Int×Value)} {ids:List Int} {g:Int→Int} (h:GMap m ids g) (x:Int):(Zn m x).getD (.int .i64 0)= .int .i64 (if x∈ids then g x else 0):=by
 rw[h x];split<;>rfl
theorem GMap.put {m:List (Int×Value)} {ids:List Int} {g:Int→Int} (h:GMap m ids g) {x v:Int} (hx:x∈ids):GMap (Zk m x (.int .i64 v)) ids (fun y=>if y=x then v else g y):=fun y=>by
 rw[Zah]
 by_cases e:y=x
 ·subst e;simp[hx]
 ·rw[if_neg e,h y];simp[e]
theorem ZdX {m:List (Int×Value)} {ids:List Int} {x:Int} {v:Value} (h:m.map (·.1)=ZZ [] ids) (hx:x∈ids):(Zk m x v).map (·.1)=ZZ [] ids:=by
 rw[ZdP,if_pos (by rw[h,ZbW];exact Or.inr hx),h]
theorem Zho:∀{m:List (Int×Value)} {p:Int×Value},(m.map (·.1)).Nodup→p∈m→Zn m p.1=some p.2
 |[],p,_,h=>by cases h
 |q::m,p,hn,h=>by
  rw[List.map_cons,List.nodup_cons]at hn
  have hlk:∀(l:List (Int×Value)) (i j:Nat),(look p.1 l i).map (·.2)=(look p.1 l j).map (·.2):=fun l=>by
   induction l with
   |nil=>intro i j;rfl
   |cons a l ih=>intro i j;unfold look;split;rfl;exact ih _ _
  unfold Zn look;rcases List.mem_cons.1 h with rfl|h
  ·rw[if_pos rfl];rfl
  ·rw[if_neg (fun e:p.1=q.1=>hn.1 (List.mem_map.2 ⟨p,h,e⟩)),hlk m 1 0];exact Zho hn.2 h
theorem HeapM.app {w w9:World} {base hb:Nat} {A A9:Option Addr} {xs:List Int} {c c9:Nat} {x:Int} (HH:HeapM w base hb A xs c) (hsz:hb<w.heap.size)
  (hown9:w9.ownsRow base 3 1 (.slice A9 (xs.length+1) c9) (xs.length+1) (xs.map (Value.int .i64)++[.int .i64 x])) (hu9:Upd (Own (.slice A xs.length c)) w w9) (hg9:Grew w (.slice A xs.length c) (.slice A9 (xs.length+1) c9)):
  HeapM (w9.setCell ⟨hb,0,none⟩ (.slice A9 (xs.length+1) c9)) base hb A9 (xs++[x]) c9∧Upd (fun i=>i=hb∨Own (.slice A xs.length c) i) w (w9.setCell ⟨hb,0,none⟩ (.slice A9 (xs.length+1) c9)):=by
 have hl1:(xs++[x]).length=xs.length+1:=by simp
 have hN:¬Own (.slice A9 (xs.length+1) c9) hb:=by
  intro e;rcases hg9 with h1|⟨k,h1,h2⟩
  ·exact HH.2.2 (show _=some hb by rw[←h1];exact e)
  ·unfold Own at e;rw[h1]at e
   cases e
   omega
 have hu:Upd (One hb) w9 (w9.setCell ⟨hb,0,none⟩ (.slice A9 (xs.length+1) c9)):=(Upd.refl (One hb) w9).setOne 0 _;refine⟨⟨?_,?_,?_⟩,(hu9.mono (fun _ _ e=>Or.inr e)).trans (hu.mono (fun _ _ e=>Or.inl e))⟩
 ·rw[hl1];simpa using(HH.1.upd hu9 HH.2.2).set_ 0 (.slice A9 (xs.length+1) c9)
 ·rw[hl1,List.map_append];exact Zb hown9 hu (fun i e1 e2=>hN (by unfold One at e2;subst e2;exact e1))
 ·rw[hl1];exact hN
theorem TpI.perm {l:List Edge} {ids L nx xs ys:List Int} {g:Int→Int} (h:TpI l ids L nx xs g) (hp:ys.Perm xs):TpI l ids L nx ys g:=⟨h.rise,h.sub,h.cnt,hp.trans h.heap,h.gone,h.nxs⟩
structure TpW (w wr:World) (base hb ba bn:Nat) (mn:List (Int×Value)) (l:List Edge) (ids L nx ys out:List Int) (g:Int→Int) (mA:List (Int×Value)) (A:Option Addr) (c:Nat) (Ao:Option Addr) (co:Nat):Prop where
 I:TpI l ids L nx ys g
 hp:HpF ys 0 ys.length
 H:HeapM wr base hb A ys c
 O:wr.ownsRow base 3 1 (.slice Ao out.length co) out.length (out.map (Value.int .i64))
 ap:∀i,Own (.slice Ao out.length co) i→¬Own (.slice A ys.length c) i
 M:MapE wr ba (fun n:Int=>Value.int .i64 n) mA
 G:GMap mA ids g
 K:mA.map (·.1)=ZZ [] ids
 N:NextIs wr bn hb mn (Zal l ids)
 U:Upd No w wr
 S:ZcQ l L.length L out=Zbk ids l
 Ln:out.length+L.length=(Zam ids).length
 B:base≤wr.heap.size
 o1:w.heap.size≤ba
 o2:ba<bn
 o3:bn<hb
 o4:hb<base
section
variable {w wr w1 w2 w5 w6:World} {base hb ba bn:Nat} {mn mA:List (Int×Value)} {l:List Edge} {ids L nx ys ys' out:List Int} {g:Int→Int} {A A' Ao Ao':Option Addr} {c c' co co':Nat} {m x:Int}
theorem TpW.took (h:TpW w wr base hb ba bn mn l ids L [] ys out g mA A c Ao co) (hm:m∈ys) (hle:∀y∈ys,m≤y) (p:(ys'++[m]).Perm ys) (hp':HpF ys' 0 ys'.length) (H1:HeapM w1 base hb A ys' c) (u1:Upd (fun i=>i=hb∨Own (.slice A ys.length c) i) wr w1)
  (u2:Upd (Own (.slice Ao out.length co)) w1 w2) (own2:w2.ownsRow base 3 1 (.slice Ao' (out.length+1) co') (out.length+1) (out.map (Value.int .i64)++[.int .i64 m])) (g2:Grew w1 (.slice Ao out.length co) (.slice Ao' (out.length+1) co')):
  TpW w w2 base hb ba bn mn l ids (L.erase m) (Zal l ids m) ys' (out++[m]) g mA A c Ao' co':=by
 have hge:∀i,Own (.slice A ys.length c) i→base≤i:=fun i hi=>(h.H.2.1.lt i hi).1
 have hge2:∀i,Own (.slice Ao out.length co) i→base≤i:=fun i hi=>(h.O.lt i hi).1
 have e1:=h.o1;have e2:=h.o2;have e3:=h.o3;have e4:=h.o4;have hs1:=u1.size;have hs2:=u2.size;have hap:∀i,Own (.slice Ao out.length co) i→¬Own (.slice A ys'.length c) i:=fun i hi e=>h.ap i hi (Zmy e)
 have hmL:=((h.I.mem m).1 hm).1;have hl1:(out++[m]).length=out.length+1:=by simp
 refine⟨h.I.pop p,hp',?_,?_,?_,?_,h.G,h.K,?_,?_,?_,?_,?_,e1,e2,e3,e4⟩
 ·refine⟨H1.1.upd u2 (fun e=> ?_),Zb H1.2.1 u2 (fun i hi e=>hap i e hi),H1.2.2⟩;have:=hge2 hb e;omega
 ·rw[hl1,List.map_append];exact own2
 ·rw[hl1];intro i hi e;rcases g2 with h2|⟨k,h2,h3⟩
  ·exact hap i (show _=some i by rw[←h2];exact hi) e
  ·unfold Own at hi;rw[h2]at hi;cases hi;have:=(H1.2.1.lt i e).2;omega
 ·exact(h.M.upd u1 (fun e=>by rcases e with e|e;omega;have:=hge _ e;omega)).upd u2 (fun e=>by have:=hge2 _ e;omega)
 ·exact(h.N.upd u1 (fun i _ hi e=>by rcases e with e|e;omega;have:=hge _ e;omega) e3).upd u2 (fun i _ hi e=>by have:=hge2 _ e;omega) e3
 ·refine(h.U.then_ u1 (fun i e=>Or.inr (by rcases e with e|e;omega;have:=hge _ e;omega))).then_ u2 (fun i e=>Or.inr (by have:=hge2 _ e;omega))
 ·rw[←h.S];exact(Zgi (h.I.find hm hle)).symm
 ·rw[hl1,List.length_erase_of_mem hmL];have:=h.Ln;have:=List.length_pos_of_mem hmL;omega
 ·have:=h.B;omega
theorem TpW.less (h:TpW w wr base hb ba bn mn l ids L (x::nx) ys out g mA A c Ao co) (hne:g x-1≠1) (M5:MapE w5 ba (fun n:Int=>Value.int .i64 n) (Zk mA x (.int .i64 (g x-1)))) (u5:Upd (One ba) wr w5):
  TpW w w5 base hb ba bn mn l ids L nx ys out (fun y=>if y=x then g x-1 else g y) (Zk mA x (.int .i64 (g x-1))) A c Ao co:=by
 have e1:=h.o1;have e2:=h.o2;have e3:=h.o3;have e4:=h.o4;have hx:=h.I.nxs x (List.mem_cons_self ..);have hI:=h.I.step;rw[if_neg hne]at hI;have hnb:∀i,bn≤i→¬One ba i:=fun i hi e=>by unfold One at e;omega
 refine⟨hI,h.hp,⟨h.H.1.upd u5 (hnb _ (by omega)),Zb h.H.2.1 u5 (fun i hi=>hnb i (by have:=(h.H.2.1.lt i hi).1;omega)),h.H.2.2⟩,Zb h.O u5 (fun i hi=>hnb i (by have:=(h.O.lt i hi).1;omega)),h.ap,M5,h.G.put hx,ZdX h.K hx,
  h.N.upd u5 (fun i h1 h2=>hnb i h1) e3,h.U.then_ u5 (fun i e=>Or.inr (by unfold One at e;omega)),h.S,h.Ln,Nat.le_trans h.B u5.size,e1,e2,e3,e4⟩
theorem TpW.more (h:TpW w wr base hb ba bn mn l ids L (x::nx) ys out g mA A c Ao co) (he:g x-1=1) (M5:MapE w5 ba (fun n:Int=>Value.int .i64 n) (Zk mA x (.int .i64 (g x-1)))) (u5:Upd (One ba) wr w5)
  (p:ys'.Perm (ys++[x])) (hp':HpF ys' 0 ys'.length) (H6:HeapM w6 base hb A' ys' c') (g6:Grew w5 (.slice A ys.length c) (.slice A' ys'.length c')) (u6:Upd (fun i=>i=hb∨Own (.slice A ys.length c) i) w5 w6):
  TpW w w6 base hb ba bn mn l ids L nx ys' out (fun y=>if y=x then g x-1 else g y) (Zk mA x (.int .i64 (g x-1))) A' c' Ao co:=by
 have e1:=h.o1;have e2:=h.o2;have e3:=h.o3;have e4:=h.o4;have hx:=h.I.nxs x (List.mem_cons_self ..);have hI:=h.I.step;rw[if_pos he]at hI;have hnb:∀i,bn≤i→¬One ba i:=fun i hi e=>by unfold One at e;omega
 have hge:∀i,Own (.slice A ys.length c) i→base≤i:=fun i hi=>(h.H.2.1.lt i hi).1
 have O5:=Zb h.O u5 (fun i hi=>hnb i (by have:=(h.O.lt i hi).1;omega))
 refine⟨hI.perm p,hp',H6,Zb O5 u6 (fun i hi e=> ?_),fun i hi e=> ?_,M5.upd u6 (fun e=>by rcases e with e|e;omega;have:=hge _ e;omega),h.G.put hx,ZdX h.K hx,
  (h.N.upd u5 (fun i h1 h2=>hnb i h1) e3).upd u6 (fun i _ hi e=>by rcases e with e|e;omega;have:=hge _ e;omega) e3,(h.U.then_ u5 (fun i e=>Or.inr (by unfold One at e;omega))).then_ u6 (fun i e=>Or.inr (by rcases e with e|e;omega;have:=hge _ e;omega)),h.S,h.Ln,?_,e1,e2,e3,e4⟩
 ·rcases e with e|e
  ·have:=(h.O.lt i hi).1;omega
  ·exact h.ap i hi e
 ·rcases g6 with h2|⟨k,h2,h3⟩
  ·exact h.ap i hi (show _=some i by rw[←h2];exact e)
  ·unfold Own at e;rw[h2]at e;cases e;have:=(O5.lt i hi).2;omega
 ·have:=h.B;have:=u5.size;have:=u6.size;omega
end
theorem Zir {w:World} {v:Value} {g n c:Nat} (h:v.ownBlock=some g∨w.heap.size≤g):Grew w v (.slice (some ⟨g,0,none⟩) n c):=by
 rcases h with h|h
 ·exact .inl h.symm
 ·exact .inr ⟨g,rfl,h⟩
def Zdi (l:List Edge) (ids:List Int) (x:Int):Bool:=1+((Zz l ids x:Nat):Int)==1
theorem Zlj {l:List Edge} {ids xs:List Int} {m:List (Int×Value)} (hk:m.map (·.1)=ZZ [] ids) (hp:xs.Perm ((m.filter fun p=>Zdi l ids p.1).map (·.1))):xs.Perm ((Zam ids).filter fun x=>1+((Zz l ids x:Nat):Int)==1):=by
 have h1:(m.filter fun p=>Zdi l ids p.1).map (·.1)=(ZZ [] ids).filter (Zdi l ids):=by
  rw[←hk,List.filter_map];rfl
 rw[h1]at hp;refine hp.trans ?_;refine(List.perm_ext_iff_of_nodup ((Zbi ids [] (by simp)).filter _) ((Zad (ZaR ids)).filter _)).2 fun x=> ?_
 rw[List.mem_filter,List.mem_filter,ZbW,ZaC];simp[Zdi]
theorem Zje {l1 l2:List (Int×Value)} {p:Int×Value} {f:Int→Bool} {xs ys:List Int} (h:(xs++((l1++p::l2).filter fun q=>f q.1).map (·.1)).Perm ys):((if f p.1=true then xs++[p.1] else xs)++((l1++l2).filter fun q=>f q.1).map (·.1)).Perm ys:=by
 refine List.Perm.trans ?_ h;rw[List.filter_append,List.filter_append,List.map_append,List.map_append]
 by_cases hp:f p.1=true
 ·rw[if_pos hp,List.filter_cons_of_pos (by simpa using hp),List.map_cons,List.append_assoc];refine List.Perm.append_left xs ?_;exact(List.perm_middle (a:=p.1) (l₁:=(l1.filter fun q=>f q.1).map (·.1)) (l₂:=(l2.filter fun q=>f q.1).map (·.1))).symm
 ·rw[if_neg hp,List.filter_cons_of_neg (by simpa using hp)]
end
/- Orders:topo.Order is walked. -/
section
open Go.RowKit
set_option maxRecDepth 100000 in
set_option maxHeartbeats 8000000 in
theorem Zne (F G:Nat→Prop) (w:World) (A B:Option Addr) (c d:Nat) (ids:List Int) (l:List Edge) (hi:Ints F w A ids) (hl:Walk G w B l) (n1:ids.length≤2000) (n2:l.length≤2000):
  Calls Tryz.prog 68 #[.slice A ids.length c,.slice B l.length d] w (ZgR w (Ze0 (Zbk ids l) 16)):=by
 have hmm:= @run_makeMap Tryz.prog;obtain⟨wa,hwa⟩:∃wa,w.alloc (.map #[] 0)=wa:=⟨_,rfl⟩;have m0:MapE wa w.heap.size (fun n:Int=>Value.int .i64 n) []:=by rw[←hwa];exact MapE.new w _
 have u0:Upd No w wa:=by rw[←hwa];exact(Upd.refl No w).alloc _
 obtain⟨ba,hba⟩:∃ba,w.heap.size=ba:=⟨_,rfl⟩;rw[hba]at m0;have HBA:=Qh hba;have HI:=Qh hi;have HL:=Qh hl;have HM0:=Qh m0;have HU0:=Qh u0;clear hi hl m0 u0
 go_enter Tryz.func68,Tryz.ntmps68
 go_wp2;clear hba hwa
 go_loopg [22] ids.length (fun gk i wr=>∃(k:Nat) (m:List (Int×Value)),k+gk=ids.length∧i= .int .i64 k∧Hid (MapE wr ba (fun n:Int=>Value.int .i64 n) m)∧Hid (GMap m (ids.take k) (fun _=>1))∧Hid (m.map (·.1)=ZZ [] (ids.take k))∧Upd No w wr)
 case atStart=>exact⟨0,[],by omega,rfl,HM0,Qh (fun x=>by simp[Zbu]),Qh rfl,HU0.out⟩
 case round=>
  obtain⟨k,m,hgk,rfl,hm,hg,hk,hu⟩:=hrel
  by_cases hlt:k<ids.length
  ·clear hmm;obtain⟨ad,hAd,_,_,hc⟩:=(HI.out.upd hu (fun _ _=>id)).at_ hlt;obtain⟨x,hx⟩:∃x,ids[k]=x:=⟨_,rfl⟩;rw[hx]at hc;subst hAd;have b1:(0:Int)≤(k:Int):=Qn _;have b2:(k:Int)<(ids.length:Int):=by omega
   obtain⟨w5,hp5,hm5,hu5⟩:=Za2 ZR Tryz.underlying97 hm.out x (.int .i64 1);have HM5:=Qh hm5;have HU5:=Qh (hu.then_ hu5 (fun i e=> .inr (by have:=HBA.out;unfold One at e;omega)));have HT:=Qh (show ids.take (k+1)=ids.take k++[x] by rw[←hx];exact List.take_succ_eq_append_getElem hlt);clear hx hm5 hu5;go_wp2
   go_roundg (gk-1)
   case measure=>omega
   case rel=>
    refine⟨k+1,_,by omega,by go_num,HM5,Qh (fun y=> ?_),Qh ?_,HU5.out⟩
    ·rw[Zah,HT.out,hg.out y]
     by_cases e:y=x<;>simp[e]
    ·rw[HT.out];exact ZgI m x _ _ _ hk.out
  ·obtain rfl:k=ids.length:=by omega
   rw[List.take_length]at hg hk;obtain⟨wn,hwn⟩:∃wn,wr.alloc (.map #[] 0)=wn:=⟨_,rfl⟩;have hn0:=MapIs.new (α:=Int) wr (fun n:Int=>Value.int .i64 n);have un:Upd No wr wn:=by rw[←hwn];exact(Upd.refl No wr).alloc _
   obtain⟨bn,hbn⟩:∃bn,wr.heap.size=bn:=⟨_,rfl⟩;have hsn:wn.heap.size=bn+1:=by rw[←hwn,←hbn];simp
   rw[hwn,hbn]at hn0;have HN:=Qh (MapSl.new (base:=bn+1) hn0);have HMN:=Qh (hm.out.upd un id);have HUN:=Qh (hu.trans un);have HB2:=Qh (show ba<bn by have:=hm.out.lt;omega);have HSN:=Qh hsn;clear hn0 un hsn hm hu;go_wp2;clear hmm hbn hwn
   go_loopg [32] l.length (fun gk i wr=>∃(k:Nat) (m mn:List (Int×Value)),k+gk=l.length∧i= .int .i64 k∧Hid (MapE wr ba (fun n:Int=>Value.int .i64 n) m)∧Hid (GMap m ids (fun x=>1+((Zz (l.take k) ids x:Nat):Int)))∧Hid (m.map (·.1)=ZZ [] ids)∧Hid (MapSl wr (bn+1) bn mn (Zal (l.take k) ids))∧Upd No w wr)
   case atStart=>exact⟨0,m,[],by omega,rfl,HMN,Qh (fun x=>by rw[hg.out x];simp[Zz]),hk,HN,HUN.out⟩
   case round=>
    clear hg hk HN HMN HUN HSN;obtain⟨k,m,mn,hgk,rfl,hm,hg,hk,hn,hu⟩:=hrel
    by_cases hlt:k<l.length
    ·obtain⟨ad,hAd,q0,q1,q2,q3⟩:=(HL.out.upd hu (fun _ _=>id)).at_ hlt;obtain⟨x,hx⟩:∃x,l[k]=x:=⟨_,rfl⟩;rw[hx]at q0 q1 q2 q3;subst hAd;have b1:(0:Int)≤(k:Int):=Qn _;have b2:(k:Int)<(l.length:Int):=by omega
     have HCT:=Qh (fun y=>ZkB hlt hx ids y);have HNT:=Qh (fun y=>ZiP hlt hx ids y);obtain⟨wx,hwx⟩:∃wx,wr.alloc (.cells #[.int .i64 x.f,.int .i64 x.t,.int .i64 x.k,.int .i64 x.key] 26)=wx:=⟨_,rfl⟩;have ux:Upd No wr wx:=by rw[←hwx];exact(Upd.refl No wr).alloc _
     have bo:Blk wx wr.heap.size 26 [.int .i64 x.f,.int .i64 x.t,.int .i64 x.k,.int .i64 x.key]:=by rw[←hwx];exact Blk.new wr _ _
     have hmx:=hm.out.upd ux id;have e1:=Zi ZR Tryz.underlying97 ZeX hmx.is x.f;have e2:=Zi ZR Tryz.underlying97 ZeX hmx.is x.t;rw[hg.out.get]at e1 e2;have d0:∀W,Upd No wx W→W.cell? ⟨wr.heap.size,0,none⟩=some (.int .i64 x.f):=fun W u=>by have:=(bo.upd u id).cell 0;simpa using this
     have d1:∀W,Upd No wx W→W.cell? ⟨wr.heap.size,1,none⟩=some (.int .i64 x.t):=fun W u=>by have:=(bo.upd u id).cell 1;simpa using this
     have hxz:Upd No wx wx:=Upd.refl _ _;have HBO:=Qh bo;have HMX:=Qh hmx;have HNX:=Qh (hn.out.upd ux id (fun _ _ _=>id));have HNR:=Qh (And.intro hn.out.is.lt (hn.out.block_lt x.f));have HUX:=Qh (hu.trans ux);clear hx bo hmx ux hm hn hu
     have hend:∀(h:¬(x.f∈ids∧x.t∈ids)),Hid (GMap m ids (fun y=>1+((Zz (l.take (k+1)) ids y:Nat):Int)))∧Hid (MapSl wx (bn+1) bn mn (Zal (l.take (k+1)) ids)):=fun h=>by
      refine⟨Qh fun y=> ?_,Qh (HNX.out.congr fun y=> ?_)⟩
      ·rw[hg.out y]
       by_cases hy:y∈ids
       ·rw[if_pos hy,if_pos hy]
        show some (Value.int .i64 (1+((Zz (l.take k) ids y:Nat):Int)))=some (.int .i64 (1+((Zz (l.take (k+1)) ids y:Nat):Int)))
        rw[HCT.out,if_neg (fun e:x.t=y∧x.f∈ids=>h ⟨e.2,by rw[e.1];exact hy⟩)];rfl
       ·rw[if_neg hy,if_neg hy]
      ·rw[HNT.out,if_neg (fun e=>h ⟨e.2.1,e.2.2⟩),List.append_nil]
     have HEND:=Qh hend;clear hend
     by_cases hf:x.f∈ids
     ·rw[if_pos hf]at e1;obtain⟨n1',hn1⟩:∃n:Nat,Zz (l.take k) ids x.f=n:=⟨_,rfl⟩;rw[hn1]at e1;have p1:(0:Int)<1+(n1':Int):=by omega
      clear hn1
      by_cases ht:x.t∈ids
      ·rw[if_pos ht]at e2;obtain⟨n2',hn2⟩:∃n:Nat,Zz (l.take k) ids x.t=n:=⟨_,rfl⟩;rw[hn2]at e2;have p2:(0:Int)<1+(n2':Int):=by omega
       have p3:(n2':Int)≤2000:=by have:=Ziy (l.take k) ids x.t;rw[List.length_take]at this;omega
       have HN2:=Qh hn2;have HF:=Qh hf;have HT:=Qh ht;clear hn2 hf ht;obtain⟨w5,hp5,hm5,hu5⟩:=Za2 ZR Tryz.underlying97 HMX.out x.t (.int .i64 (1+(n2':Int)+1));have HM5:=Qh hm5;have HMN5:=Qh (HNX.out.upd hu5 (by have:=HB2.out;unfold One;omega) (fun i h1 _ e=>by have:=HB2.out;unfold One at e;omega));obtain⟨zb,hzb⟩:∃zb,wr.heap.size=zb:=⟨_,rfl⟩;rw[hzb]at HBO HNR d0 d1;have HB5:=Qh (HBO.out.upd hu5 (by have:=HB2.out;have:=HNR.out.1;unfold One;omega));obtain⟨Sx,hSx⟩:∃S:Nat→Prop,S=fun i=>bn≤i∧i<zb:=⟨_,rfl⟩
       have d5:∀W,Upd Sx w5 W→W.cell? ⟨zb,0,none⟩=some (.int .i64 x.f):=fun W u=>by have:=(HB5.out.upd u (by rw[hSx];omega)).cell 0;simpa using this
       have d6:∀W,Upd Sx w5 W→W.cell? ⟨zb,1,none⟩=some (.int .i64 x.t):=fun W u=>by have:=(HB5.out.upd u (by rw[hSx];omega)).cell 1;simpa using this
       obtain⟨Ak,ck,hrow,howk⟩:=HMN5.out.row x.f;obtain⟨fk,hfk⟩:∃fk,Zal (l.take k) ids x.f=fk:=⟨_,rfl⟩;have hfl:fk.length≤2000:=by have:=Zhm (l.take k) ids x.f;rw[List.length_take,hfk]at this;omega
       rw[hfk]at hrow howk
       have e3:∀W,Upd No w5 W→(Instr.lookup 125 (.map (some bn)) (.int .i64 x.f) false).run Tryz.prog W= .ok (.slice Ak fk.length ck) W:=fun W u=>by
        have:=Zi ZR Tryz.underlying125 ZcV (HMN5.out.is.upd u id) x.f;rw[hrow]at this;exact this
       have hk5:∀i,Own (.slice Ak fk.length ck) i→bn+1≤i∧i<zb:=fun i hi=>by
        have h1:=(howk.lt i hi).1;have h3:=HNR.out.2 i;obtain⟨A',c',h4,h5⟩:=HNX.out.row x.f;rw[hrow]at h4;exact⟨h1,(h3 (by rw[hrow];exact hi)).2⟩
       have HK5:=Qh hk5;have HO5:=Qh howk;have HRW:=Qh hrow;have HFK:=Qh hfk;have HU5:=Qh hu5;have HSX:=Qh hSx;have HSZ:=Qh (show bn+1≤w5.heap.size by have:=HNX.out.is.lt;have:=hu5.size;omega);have HZ5:=Qh (show zb<w5.heap.size from HB5.out.lt);have hz5:Upd No w5 w5.drew:=(Upd.refl No w5).drew;have hz6:Upd No w5 (w5.alloc (.cells #[.int .i64 x.t] 3)).drew:=((Upd.refl No w5).alloc _).drew;have hzz:Upd Sx w5 w5:=Upd.refl _ _;have HSL:=Qh (HMN5.out.upd hz6 id (fun _ _ _=>id));have HK1:=Qh (ZdX (v:= .int .i64 (1+(n2':Int)+1)) hk.out HT.out);have HG1:=Qh (hg.out.put (v:=1+(n2':Int)+1) HT.out);clear howk hrow hk5 hfk hu5 hm5 hSx hg hk;go_wp2;refine wp_region_noPanic ?_;refine wp_region_held_drew (S:=(fun W'=>Upd Sx w5 W')) (by kernel_rfl) ?_ (fun hHeld=> ?_)
       ·(first|exact hzz.drew|exact hHeld|exact hHeld.alloc _|exact hU6|exact hU7)
       refine wpK 0 rfl ?_;refine wpK 1 rfl ?_;refine wpK 2 rfl ?_;refine wpK 3 rfl ?_;refine wpK 4 rfl ?_;refine wpK 5 rfl ?_;refine wpK 7 rfl ?_;refine wpK 8 rfl ?_;refine wpR [6,9] ?_;refine wpC rfl (fun K hK=> ?_) ?_
       ·go_simp;refine hK.out _ _ ?_ (fun hHeld=> ?_)
        ·(first|exact hzz.drew|exact hHeld|exact hHeld.alloc _|exact hU6|exact hU7)
        clear hK K
        try simp only[Act.put,sT,sS,sZ]
        refine wpR [9] ?_;refine wpC rfl (fun K hK=> ?_) AllReadyH.nil;go_simp;refine hK.out _ _ ?_ (fun hHeld=> ?_)
        ·(first|exact hzz.drew|exact hHeld|exact hHeld.alloc _|exact hU6|exact hU7)
        clear hK K
        try simp only[Act.put,sT,sS,sZ]
        refine wpR [10] ?_;refine wpC rfl (fun K hK=> ?_) AllReadyH.nil
        (first
   |(refine ZbA (by rfl) (by rfl) Z6 (v:= .slice Ak fk.length ck) (cells:=[.int .i64 x.t]) (by rfl) (by rfl) (by exact Zb HO5.out hz6 (fun _ _=>id)) rfl (by exact Za6) (by rfl) (by omega) (by omega) (by have:=HSZ.out;simp;omega) ?_;intro g6 c6 w6 hown6 hu6 hg6 hlt6;have hU6:Upd Sx w5 w6:=hHeld.trans (hu6.mono (fun i _ e=>by rw[HSX.out];have:=HK5.out i e;omega))))
        refine hK.out _ _ ?_ (fun hHeld=> ?_)
        ·(first|exact hzz.drew|exact hHeld|exact hHeld.alloc _|exact hU6|exact hU7)
        clear hK K
        try simp only[Act.put,sT,sS,sZ]
        refine wpR [11] ?_;refine wpC rfl (fun K hK=> ?_) AllReadyH.nil
        (first
   |(refine Zb0 (by rfl) (by rfl) ZR Tryz.underlying125 (a:=x.f) (val:= .slice (some ⟨g6,0,none⟩) (fk.length+1) c6) (by rfl) (by rfl) (by rfl) ((HSL.out.is).upd hu6 (fun e=>by have:=HK5.out _ e;omega)) ?_;intro w7 hm7 hu7;have hU7:Upd Sx w5 w7:=hHeld.trans (hu7.mono (fun i _ e=>by rw[HSX.out];have:=HNR.out.1;unfold One at e;omega))))
        refine hK.out _ _ ?_ (fun hHeld=> ?_)
        ·(first|exact hzz.drew|exact hHeld|exact hHeld.alloc _|exact hU6|exact hU7)
        clear hK K
        try simp only[Act.put,sT,sS,sZ]
        refine wpD (NoPanic.normal ?_);have HU7:=Qh hHeld;clear hHeld hU6 hU7
        have hgn:∀i,Own (.slice (some ⟨g6,0,none⟩) (fk.length+1) c6) i→Own (.slice Ak fk.length ck) i∨(w5.alloc (.cells #[.int .i64 x.t] 3)).drew.heap.size≤i:=fun i hi=>by
         rcases hg6 with h1|⟨q,h1,h2⟩
         ·exact Or.inl (show _=some i by rw[←h1];exact hi)
         ·unfold Own at hi;rw[h1]at hi;cases hi;exact Or.inr h2
        have HNF:=Qh (HSL.out.put (key:=x.f) (x:=x.t) (A:=Ak) (c:=ck) (by rw[HRW.out,HFK.out]) (by omega) (by rw[HFK.out];simpa using hown6) (by rw[HFK.out];exact hu6) (by rw[HFK.out];exact hgn) (by rw[HFK.out];exact hm7) hu7);clear hgn;go_wp2
        go_roundg (gk-1)
        case measure=>omega
        case rel=>
         have hft:x.f∈ids∧x.t∈ids:=⟨HF.out,HT.out⟩;refine⟨k+1,_,_,by omega,by go_num,Qh (HM5.out.upd HU7.out (by rw[HSX.out];have:=HB2.out;omega)),Qh (fun y=> ?_),HK1,Qh (HNF.out.congr fun y=> ?_),?_⟩
         ·rw[HG1.out y]
          by_cases hy:y∈ids
          ·rw[if_pos hy,if_pos hy]
           show some (Value.int .i64 (if y=x.t then 1+(n2':Int)+1 else 1+((Zz (l.take k) ids y:Nat):Int)))=some (.int .i64 (1+((Zz (l.take (k+1)) ids y:Nat):Int)))
           rw[HCT.out]
           by_cases hyt:y=x.t
           ·subst hyt;rw[if_pos rfl,if_pos ⟨rfl,hft.1⟩,HN2.out];congr 2
           ·rw[if_neg hyt,if_neg (fun e=>hyt e.1.symm)];rfl
          ·rw[if_neg hy,if_neg hy]
         ·rw[HNT.out,HFK.out]
          by_cases hyf:y=x.f
          ·subst hyf;rw[if_pos rfl,if_pos ⟨rfl,hft.1,hft.2⟩,HFK.out]
          ·rw[if_neg hyf,if_neg (fun e=>hyf e.1.symm),List.append_nil]
         ·exact(HUX.out.then_ HU5.out (fun i e=> .inr (by have:=HBA.out;unfold One at e;omega))).then_ HU7.out (fun i e=> .inr (by rw[HSX.out]at e;have:=HBA.out;have:=HB2.out;omega))
       refine wpC rfl (fun K hK=> ?_) AllReadyH.nil;go_simp;refine hK.out _ _ ?_ (fun hHeld=> ?_)
       ·(first|exact hzz.drew|exact hHeld|exact hHeld.alloc _|exact hU6|exact hU7)
       clear hK K
       try simp only[Act.put,sT,sS,sZ]
       refine wpR [6] ?_;refine wpC rfl (fun K hK=> ?_) AllReadyH.nil;go_simp;refine hK.out _ _ ?_ (fun hHeld=> ?_)
       ·(first|exact hzz.drew|exact hHeld|exact hHeld.alloc _|exact hU6|exact hU7)
       clear hK K
       try simp only[Act.put,sT,sS,sZ]
       refine wpR [10] ?_;refine wpC rfl (fun K hK=> ?_) AllReadyH.nil
       (first
  |(refine ZbA (by rfl) (by rfl) Z6 (v:= .slice Ak fk.length ck) (cells:=[.int .i64 x.t]) (by rfl) (by rfl) (by exact Zb HO5.out hz6 (fun _ _=>id)) rfl (by exact Za6) (by rfl) (by omega) (by omega) (by have:=HSZ.out;simp;omega) ?_;intro g6 c6 w6 hown6 hu6 hg6 hlt6;have hU6:Upd Sx w5 w6:=hHeld.trans (hu6.mono (fun i _ e=>by rw[HSX.out];have:=HK5.out i e;omega))))
       refine hK.out _ _ ?_ (fun hHeld=> ?_)
       ·(first|exact hzz.drew|exact hHeld|exact hHeld.alloc _|exact hU6|exact hU7)
       clear hK K
       try simp only[Act.put,sT,sS,sZ]
       refine wpR [11] ?_;refine wpC rfl (fun K hK=> ?_) AllReadyH.nil
       (first
  |(refine Zb0 (by rfl) (by rfl) ZR Tryz.underlying125 (a:=x.f) (val:= .slice (some ⟨g6,0,none⟩) (fk.length+1) c6) (by rfl) (by rfl) (by rfl) ((HSL.out.is).upd hu6 (fun e=>by have:=HK5.out _ e;omega)) ?_;intro w7 hm7 hu7;have hU7:Upd Sx w5 w7:=hHeld.trans (hu7.mono (fun i _ e=>by rw[HSX.out];have:=HNR.out.1;unfold One at e;omega))))
       refine hK.out _ _ ?_ (fun hHeld=> ?_)
       ·(first|exact hzz.drew|exact hHeld|exact hHeld.alloc _|exact hU6|exact hU7)
       clear hK K
       try simp only[Act.put,sT,sS,sZ]
       refine wpD (NoPanic.normal ?_);have HU7:=Qh hHeld;clear hHeld hU6 hU7
       have hgn:∀i,Own (.slice (some ⟨g6,0,none⟩) (fk.length+1) c6) i→Own (.slice Ak fk.length ck) i∨(w5.alloc (.cells #[.int .i64 x.t] 3)).drew.heap.size≤i:=fun i hi=>by
        rcases hg6 with h1|⟨q,h1,h2⟩
        ·exact Or.inl (show _=some i by rw[←h1];exact hi)
        ·unfold Own at hi;rw[h1]at hi;cases hi;exact Or.inr h2
       have HNF:=Qh (HSL.out.put (key:=x.f) (x:=x.t) (A:=Ak) (c:=ck) (by rw[HRW.out,HFK.out]) (by omega) (by rw[HFK.out];simpa using hown6) (by rw[HFK.out];exact hu6) (by rw[HFK.out];exact hgn) (by rw[HFK.out];exact hm7) hu7);clear hgn;go_wp2
       go_roundg (gk-1)
       case measure=>omega
       case rel=>
        have hft:x.f∈ids∧x.t∈ids:=⟨HF.out,HT.out⟩;refine⟨k+1,_,_,by omega,by go_num,Qh (HM5.out.upd HU7.out (by rw[HSX.out];have:=HB2.out;omega)),Qh (fun y=> ?_),HK1,Qh (HNF.out.congr fun y=> ?_),?_⟩
        ·rw[HG1.out y]
         by_cases hy:y∈ids
         ·rw[if_pos hy,if_pos hy]
          show some (Value.int .i64 (if y=x.t then 1+(n2':Int)+1 else 1+((Zz (l.take k) ids y:Nat):Int)))=some (.int .i64 (1+((Zz (l.take (k+1)) ids y:Nat):Int)))
          rw[HCT.out]
          by_cases hyt:y=x.t
          ·subst hyt;rw[if_pos rfl,if_pos ⟨rfl,hft.1⟩,HN2.out];congr 2
          ·rw[if_neg hyt,if_neg (fun e=>hyt e.1.symm)];rfl
         ·rw[if_neg hy,if_neg hy]
        ·rw[HNT.out,HFK.out]
         by_cases hyf:y=x.f
         ·subst hyf;rw[if_pos rfl,if_pos ⟨rfl,hft.1,hft.2⟩,HFK.out]
         ·rw[if_neg hyf,if_neg (fun e=>hyf e.1.symm),List.append_nil]
        ·exact(HUX.out.then_ HU5.out (fun i e=> .inr (by have:=HBA.out;unfold One at e;omega))).then_ HU7.out (fun i e=> .inr (by rw[HSX.out]at e;have:=HBA.out;have:=HB2.out;omega))
      ·rw[if_neg ht]at e2;have HE:=HEND.out (fun h=>ht h.2);have hm5:=HMX;clear hf ht;go_wp2
       go_roundg (gk-1)
       case measure=>omega
       case rel=>exact⟨k+1,m,mn,by omega,by go_num,hm5,HE.1,hk,HE.2,HUX.out⟩
     ·rw[if_neg hf]at e1;have HE:=HEND.out (fun h=>hf h.1);clear hf e2;go_wp2
      go_roundg (gk-1)
      case measure=>omega
      case rel=>exact⟨k+1,m,mn,by omega,by go_num,HMX,HE.1,hk,HE.2,HUX.out⟩
    ·obtain rfl:k=l.length:=by omega
     have hgm:GMap m ids (fun x=>1+((Zz l ids x:Nat):Int)):=by have:=hg.out;rwa [List.take_length]at this
     have hnn:MapSl wr (bn+1) bn mn (Zal l ids):=by have:=hn.out;rwa [List.take_length]at this
     obtain⟨hb,hhb⟩:∃hb,wr.heap.size=hb:=⟨_,rfl⟩;obtain⟨wh,hwh⟩:∃wh,wr.alloc (.cells #[.slice none 0 0] 207)=wh:=⟨_,rfl⟩;have uh:Upd No wr wh:=by rw[←hwh];exact(Upd.refl No wr).alloc _
     have bh:Blk wh hb 207 [.slice none 0 0]:=by rw[←hwh,←hhb];exact Blk.new wr _ _
     have hsh:wh.heap.size=hb+1:=by rw[←hwh,←hhb];simp
     obtain⟨wi,hrun,hit,hui,hsi⟩:=Zdo Tryz.underlying97 (hm.out.upd uh id);rw[hsh]at hrun hit hsi;have hbn:=hnn.is.lt;rw[hhb]at hbn;have hnx:=((hnn.next (z:=hb) (by omega)).upd (uh.trans hui) (fun _ _ _=>id) hbn);have HNX:=Qh hnx;have HME:=Qh ((hm.out.upd uh id).upd hui id);have HIT:=Qh hit;have HUI:=Qh (hu.trans (uh.trans hui));have HGM:=Qh hgm;have HK:=Qh hk.out;have HH0:HeapM wi (hb+2) hb none [] 0:=⟨bh.upd hui id,World.ownsRow_nil _ _ _ _,by simp[Own,Value.ownBlock]⟩;have HH:=Qh HH0;have HSI:=Qh hsi;have HBH:=Qh hbn;have HND:=Qh (show(m.map (·.1)).Nodup by rw[hk.out];exact Zbi ids [] (by simp));clear hgm hnn uh bh hsh hit hui hsi hbn hnx HH0 hm hg hn hk hu;have HINIT:=Qh (Zou (base:=hb+2) (hb:=hb));unfold hif at HINIT;go_wp2
     go_loopg [] m.length (fun gk wr=>∃(left:List (Int×Value)) (xs:List Int) (A5:Option Addr) (c5:Nat),left.length=gk∧Hid (Iter wr (hb+1) ba (fun n:Int=>Value.int .i64 n) m left)∧Hid (∀p∈left,p∈m)∧Hid ((xs++(left.filter fun p=>Zdi l ids p.1).map (·.1)).Perm ((m.filter fun p=>Zdi l ids p.1).map (·.1)))∧Hid (HeapM wr (hb+2) hb A5 xs c5)∧Upd (fun i=>i=hb∨i=hb+1) wi wr)
     case atStart=>exact⟨m,[],none,0,rfl,HIT,Qh (fun _ h=>h),Qh (by simp),HH,Upd.refl _ _⟩
     case round=>
      obtain⟨left,xs,A5,c5,hgk,hit,hsub,hpm,hh,hu⟩:=hrel;have hsz:=hu.size;rw[HSI.out]at hsz;rcases ZdZ (P:=Tryz.prog) hit.out with ⟨rfl,hnx⟩|⟨l1,p,l2,w5,rfl,hnx,hit5,hu5,hs5,hent⟩
      ·have HXS:=Qh (Zlj HK.out (by simpa using hpm.out))
       have hxl:xs.length≤2000:=by
        have h1:=HXS.out.length_eq;have h2:=List.length_filter_le (fun x=>1+((Zz l ids x:Nat):Int)==1) (Zam ids);have h3:=ZaB ids;omega
       have HI0:=Qh (HINIT.out _ A5 xs c5 (by omega) hh.out);have HUR:=Qh hu;clear hgk hit hsub hpm hu
       go_wp2_with fail
       refine(HI0.out).mono ?_;rintro e w1 ⟨rfl,ys,hyp,hyf,hym,hu1⟩
       have HW:Hid (TpW w w1 (hb+2) hb ba bn mn l ids (Zam ids) [] ys [] (fun x=>1+((Zz l ids x:Nat):Int)) m A5 c5 none 0):=by
        have hge:∀i,Own (.slice A5 xs.length c5) i→hb+2≤i:=fun i hi=>(hh.out.2.1.lt i hi).1
        have e1:=HBA.out;have e2:=HB2.out;have e3:=HBH.out;refine Qh ⟨(TpI.start (ZaR ids) (ZaC ids) (fun x _=>rfl) HXS.out).perm hyp,hyf,hym,World.ownsRow_nil _ _ _ _,by simp[Own,Value.ownBlock],?_,HGM.out,HK.out,?_,?_,rfl,by simp,?_,by omega,by omega,by omega,by omega⟩
        ·exact(HME.out.upd HUR.out (by omega)).upd hu1 (fun e=>by have:=hge _ e;omega)
        ·exact(HNX.out.upd HUR.out (fun i _ _=>by omega) e3).upd hu1 (fun i _ _ e=>by have:=hge _ e;omega) e3
        ·exact(HUI.out.then_ HUR.out (fun i e=>Or.inr (by omega))).then_ hu1 (fun i e=>Or.inr (by have:=hge _ e;omega))
        ·have:=hu1.size;omega
       clear hyp hyf hym hu1 hxl hh hsz HNX HME HIT HUI HGM HK HH HSI HND HXS HI0 HUR hnx hrun;have HINIT:=Qh (Zo9 (base:=hb+2) (hb:=hb));have HPUSH:=Qh (Zot (base:=hb+2) (hb:=hb));unfold hif at HINIT HPUSH;go_wp2
       go_loopg [15] (Zam ids).length (fun gk so wr=>∃(L ys out:List Int) (g:Int→Int) (mA:List (Int×Value)) (A:Option Addr) (c:Nat) (Ao:Option Addr) (co:Nat),so= .slice Ao out.length co∧L.length=gk∧Hid (TpW w wr (hb+2) hb ba bn mn l ids L [] ys out g mA A c Ao co))
       case atStart=>exact⟨Zam ids,ys,[],_,m,A5,c5,none,0,rfl,rfl,HW⟩
       case round=>
        clear HW;obtain⟨L,ys,out,g,mA,A,c,Ao,co,rfl,hgk,hw⟩:=hrel;have hc:=hw.out.H.cell
        have hyl:ys.length≤2000:=by
         have h1:=hw.out.I.heap.length_eq;have h2:=List.length_filter_le (fun x=>Zz l L x+([]:List Int).count x==0) L;have h3:=hw.out.Ln;have h4:=ZaB ids;omega
        have hol:out.length≤2000:=by have h3:=hw.out.Ln;have h4:=ZaB ids;omega
        by_cases hz:ys=[]
        ·subst hz;have HL:=Qh (Zfc wr A 0 c);have hc:wr.cell? ⟨hb,0,none⟩=some (.slice A 0 c):=hc;have hml:=fun ty=>Zg9 Tryz.underlying97 hw.out.M.is ty
         obtain⟨q,hq⟩:∃q,mA.length=q:=⟨_,rfl⟩
         have hqs:q=(Zam ids).length:=by
          have h1:=congrArg List.length hw.out.K;rw[List.length_map,hq]at h1;rw[h1];exact((List.perm_ext_iff_of_nodup (Zbi ids [] (by simp)) (Zad (ZaR ids))).2 fun x=>by rw[ZbW,ZaC];simp).length_eq
         have hln:=hw.out.Ln;rw[hq]at hml;clear hgk
         by_cases hLe:L=[]
         ·subst hLe;obtain rfl:q=out.length:=by simp at hln;omega
          have HS:=Qh (show Zbk ids l=some out from hw.out.S.symm);have hnn:¬((out.length:Int)<(out.length:Int)):=Int.lt_irrefl _;clear hqs hln
          go_wp2_with fail
          refine(HL.out).mono ?_;rintro e w2 ⟨rfl,rfl⟩;go_wp2
          go_ret2
          refine⟨Ao,co,?_,?_,hw.out.U⟩
          ·rw[HS.out];rfl
          ·rw[HS.out];exact ZB hw.out.O (by have:=hw.out.o1;have:=hw.out.o2;have:=hw.out.o3;omega)
         ·have HS:=Qh (show Zbk ids l=none by rw[←hw.out.S];exact Zgj hw.out.I.stuck hLe);have hLp:=List.length_pos_iff.2 hLe;have hlt:(out.length:Int)<(q:Int):=by omega
          clear hqs hln hLe hLp
          go_wp2_with fail
          refine(HL.out).mono ?_;rintro e w2 ⟨rfl,rfl⟩;go_wp2
          go_ret2
          refine⟨none,0,?_,?_,hw.out.U⟩
          ·rw[HS.out];rfl
          ·rw[HS.out];exact World.ownsRow_nil _ _ _ _
        ·obtain⟨n,hn⟩:∃n,ys.length=n+1:=⟨ys.length-1,by have:=List.length_pos_iff.2 hz;omega⟩;obtain⟨g0,cur,rfl,hgb,hB,hnc,hcl,hct,hcm⟩:=ZfM hw.out.H.2.1 (by omega);obtain⟨m0,hm0⟩:∃m0,ys.getD 0 0=m0:=⟨_,rfl⟩
         have c0:wr.cell? ⟨g0,0,none⟩=some (.int .i64 m0):=by
          rw[hB.cell]
          have h1:(cur.take (ys.length*1))[0]? =some (.int .i64 m0):=by
           rw[hct,List.getElem?_map,←hm0]
           cases ys with
           |nil=>exact absurd rfl hz
           |cons a ys=>rfl
          rw[List.getElem?_take]at h1
          split at h1
          ·exact h1
          ·cases h1
         have HP:=Qh (HINIT.out wr (some ⟨g0,0,none⟩) ys c n hn (by omega) m0 hm0 hw.out.H hw.out.hp)
         have HMY:=Qh (show m0∈ys by
          rw[←hm0]
          cases ys with
          |nil=>exact absurd rfl hz
          |cons a ys=>simp)
         have HLE:=Qh (show∀y∈ys,m0≤y from fun y hy=>by
          obtain⟨k,hk,rfl⟩:=List.getElem_of_mem hy;have h1:=hw.out.hp.least k hk;rw[hm0]at h1
          simpa[List.getD_eq_getElem?_getD,hk]using h1)
         have HL:=Qh (Zfc wr (some ⟨g0,0,none⟩) ys.length c);obtain⟨fk,hfk⟩:∃fk,Zal l ids m0=fk:=⟨_,rfl⟩;have HFK:=Qh hfk;have hfl:fk.length≤2000:=by have:=Zhm l ids m0;rw[hfk]at this;omega
         have hp1:(0:Int)<(n:Int)+1:=by omega
         rw[hn]at hc HL;have HN:=Qh hn;have HB0:=Qh hw.out.B;clear hm0 hgb hB hnc hcl hct hcm hz hn hfk
         go_wp2_with fail
         refine(HL.out).mono ?_;rintro e w2 ⟨rfl,rfl⟩
         go_wp2_with fail
         refine(HP.out).mono ?_;rintro e w1 ⟨rfl,ys1,hyp,hyf,hym,hu1⟩
         have HO1:=Qh (Zb hw.out.O hu1 (fun i hi e=>by
          rcases e with e|e
          ·have:=(hw.out.O.lt i hi).1;omega
          ·exact hw.out.ap i hi e))
         have HT:=Qh (fun w2 Ao' co'=>hw.out.took (w2:=w2) (Ao':=Ao') (co':=co') HMY.out HLE.out hyp hyf hym hu1);have hs1:=hu1.size;have hb0:=HB0.out;clear hyp hyf hym hu1
         go_wp2_with (at_builtin;refine Z8 rfl rfl Z6 (base:=hb+2) (v:= .slice Ao out.length co) (n:=out.length) (xs:=out.map (Value.int .i64)) (cells:=[.int .i64 m0]) rfl rfl HO1.out rfl rfl (by omega) (by omega) (by omega) ?_;intro g9 c9 w9 hown9 hu9 hg9 hlt9;have HW9:=Qh (HT.out w9 _ c9 hu9 hown9 (Zir hg9));have hnx9:=HW9.out.N;obtain⟨Ak,ck,hrow,hik⟩:=hnx9.row m0;have e3:=Zi ZR Tryz.underlying125 ZcV hnx9.is m0;rw[hrow]at e3;rw[HFK.out]at e3 hrow;have HROW:=Qh hrow;clear hown9 hu9 hg9 hnx9 hrow hik)
         generalize gk=GK at*
         go_loopg [96] fk.length (fun gj i wj=>∃(j:Nat) (ys:List Int) (g:Int→Int) (mA:List (Int×Value)) (A:Option Addr) (c:Nat),j+gj=fk.length∧i= .int .i64 j∧Hid (TpW w wj (hb+2) hb ba bn mn l ids (L.erase m0) (fk.drop j) ys (out++[m0]) g mA A c (some ⟨g9,0,none⟩) c9))
         case atStart=>exact⟨0,ys1,g,mA,_,c,by omega,rfl,by have:=HW9.out;rw[HFK.out]at this;exact Qh this⟩
         case round=>
          obtain⟨j,ys2,g2,mA2,A2,c2,hgj,rfl,hw2⟩:=hrel
          by_cases hltj:j<fk.length
          ·obtain⟨A',c',h1,hik2⟩:=hw2.out.N.row m0;rw[HFK.out]at h1 hik2;rw[HROW.out]at h1;obtain⟨rfl,rfl⟩:Ak=A'∧ck=c':=by cases h1;exact⟨rfl,rfl⟩
           obtain⟨ad,hAd,_,_,cx⟩:=hik2.at_ hltj;subst hAd;obtain⟨x,hx⟩:∃x,fk[j]=x:=⟨_,rfl⟩;rw[hx]at cx;have hdr:fk.drop j=x::fk.drop (j+1):=by rw[←hx];exact List.drop_eq_getElem_cons hltj
           have hw3:=hw2.out;rw[hdr]at hw3;have hxi:=hw3.I.nxs x (List.mem_cons_self ..);have hgx:=hw3.I.cnt x hxi;have q1:=Ziy l (L.erase m0) x;have q2:(x::fk.drop (j+1)).count x≤fk.length:=by rw[←hdr];exact Nat.le_trans List.count_le_length (by simp)
           have q3:1≤(x::fk.drop (j+1)).count x:=by rw[List.count_cons_self];omega
           obtain⟨z,hz1⟩:∃z,g2 x=z+1:=⟨g2 x-1,by omega⟩;have p1:1≤z:=by omega
           have p2:z≤4000:=by omega
           have e1:=Zi ZR Tryz.underlying97 ZeX hw3.M.is x;rw[hw3.G.get,if_pos hxi,hz1]at e1;obtain⟨w5,hp5,hm5,hu5⟩:=Za2 ZR Tryz.underlying97 hw3.M x (.int .i64 z);have e2:=Zi ZR Tryz.underlying97 ZeX hm5.is x;rw[ZH,Option.getD_some]at e2;have b1:(0:Int)≤(j:Int):=Qn _;have b2:(j:Int)<(fk.length:Int):=by omega
           have hzz:g2 x-1=z:=by omega
           rw[←hzz]at hm5;have HM5:=Qh hm5;have HU5:=Qh hu5;have HW3:=Qh hw3;have HZZ:=Qh hzz
           have hyl2:ys2.length≤2000:=by
            have h1:=hw3.I.heap.length_eq;have h2:=List.length_filter_le (fun y=>Zz l (L.erase m0) y+(x::fk.drop (j+1)).count y==0) (L.erase m0);have h3:=hw3.Ln;have h4:=ZaB ids;omega
           clear hm5 hu5 hw3 hzz hx hdr hgx q1 q2 q3 hz1 hxi h1 hik2 hw2
           by_cases hz2:z=1
           ·subst hz2;have h3:=HW3.out;have HPU:=Qh (HPUSH.out w5 A2 ys2 c2 x (by omega) (Nat.le_trans h3.B HU5.out.size) ⟨h3.H.1.upd HU5.out (by unfold One;have:=h3.o2;have:=h3.o3;omega),Zb h3.H.2.1 HU5.out (fun i hi e=>by have:=(h3.H.2.1.lt i hi).1;have:=h3.o2;have:=h3.o3;unfold One at e;omega),h3.H.2.2⟩ h3.hp);clear h3
            go_wp2_with fail
            refine(HPU.out).mono ?_;rintro e w6 ⟨rfl,A6,c6,ys6,p6,f6,H6,g6,u6⟩;have HN6:=Qh (HW3.out.more HZZ.out HM5.out HU5.out p6 f6 H6 g6 u6);clear p6 f6 H6 g6 u6;go_wp2
            go_roundg (gk-1)
            case measure=>omega
            case rel=>exact⟨j+1,ys6,_,_,A6,c6,by omega,by go_num,HN6⟩
           ·have HN6:=Qh (HW3.out.less (by rw[HZZ.out];exact hz2) HM5.out HU5.out);go_wp2
            go_roundg (gk-1)
            case measure=>omega
            case rel=>exact⟨j+1,ys2,_,_,A2,c2,by omega,by go_num,HN6⟩
          ·obtain rfl:j=fk.length:=by omega
           have hw3:=hw2.out;rw[List.drop_length]at hw3;have HW3:=Qh hw3;have HLL:=Qh (show(L.erase m0).length=GK-1 by have h1:=hw3.Ln;have h2:=hw.out.Ln;rw[List.length_append,List.length_singleton]at h1;omega);have HGK:=Qh (show 0<GK by have h1:=hw3.Ln;have h2:=hw.out.Ln;rw[List.length_append,List.length_singleton]at h1;omega);clear hw3 hw2;go_wp2
           go_roundg (GK-1)
           case measure=>have:=HGK.out;omega
           case rel=>exact⟨L.erase m0,ys2,out++[m0],g2,mA2,A2,c2,some ⟨g9,0,none⟩,c9,by simp,HLL.out,HW3⟩
      ·have hent5:=hent w5 (Upd.refl _ _);obtain⟨x,v⟩:=p;have hxm:(x,v)∈m:=hsub.out _ (by simp)
       have hv:v= .int .i64 (1+((Zz l ids x:Nat):Int)):=by
        have h1:=Zho HND.out hxm;rw[HGM.out x]at h1;simp only at h1
        split at h1
        ·exact(Option.some.inj h1).symm
        ·cases h1
       obtain⟨y,hy⟩:∃y:Int,1+((Zz l ids x:Nat):Int)=y:=⟨_,rfl⟩;have hoy:Zdi l ids x=(y==1):=by unfold Zdi;rw[hy]
       rw[hy]at hv;subst hv;simp only at hnx hent5;have HP:=Qh (Zje hpm.out);have HY:=Qh hoy;have HSUB:=Qh (show∀p∈l1++l2,p∈m from fun p hp=>hsub.out p (by rcases List.mem_append.1 hp with h|h;exact List.mem_append_left _ h;exact List.mem_append_right _ (List.mem_cons_of_mem _ h)));have hglen:(l1++l2).length=gk-1:=by simp at hgk ⊢;omega
       have hgpos:0<gk:=by simp at hgk;omega
       have hsz5:=hu5.size;have hh5:HeapM w5 (hb+2) hb A5 xs c5:=⟨hh.out.1.upd hu5 (by unfold One;omega),Zb hh.out.2.1 hu5 (fun i hi e=>by have:=(hh.out.2.1.lt i hi).1;unfold One at e;omega),hh.out.2.2⟩;have HU5:=Qh (hu.then_ hu5 (fun i e=>Or.inl (Or.inr e)));have HIT5:=Qh hit5;have HGK:=Qh hgk;clear hpm hoy hy hsub hit5 hu hxm hent hit hgk hu5 hh hs5
       by_cases hy1:y=1
       ·subst hy1;have hc:=hh5.cell;have f0:=hh5.1.free 0;have HH5:=Qh hh5
        have hxl:xs.length≤2000:=by
         have h1:=HP.out.length_eq;have h2:=List.length_filter_le (fun p=>Zdi l ids p.1) m;have h3:m.length=(ZZ [] ids).length:=by rw[←HK.out,List.length_map]
         have h4:(ZZ [] ids).length=(Zam ids).length:=((List.perm_ext_iff_of_nodup (Zbi ids [] (by simp)) (Zad (ZaR ids))).2 fun x=>by rw[ZbW,ZaC];simp).length_eq;have h5:=ZaB ids;simp only[List.length_append,List.length_map,HY.out]at h1;simp at h1;omega
        clear hh5
        go_wp2_with (at_builtin;refine Z8 rfl rfl Zf7 (base:=hb+2) (v:= .slice A5 xs.length c5) (n:=xs.length) (xs:=xs.map (Value.int .i64)) (cells:=[.int .i64 x]) (by rfl) (by rfl) HH5.out.2.1 rfl rfl (by omega) (by omega) (by omega) ?_;intro g9 c9 w9 hown9 hu9 hg9 hlt9;have hb9:=HH5.out.1.upd hu9 HH5.out.2.2;have hc9:=hb9.cell 0;have f9:=hb9.free 0;simp only[Qz]at hc9;have HO9:=Qh hown9;have HU9:=Qh hu9;have HG9:=Qh hg9;clear hown9 hu9 hg9 hb9)
        go_roundg (gk-1)
        case measure=>omega
        case rel=>
         obtain⟨h1,h2⟩:=HeapM.app HH5.out (by omega) HO9.out HU9.out (Zir HG9.out);refine⟨l1++l2,xs++[x],_,c9,hglen,?_,HSUB,Qh (by have:=HP.out;simp only[HY.out]at this;simpa using this),Qh h1,?_⟩
         ·exact Qh (HIT5.out.upd h2 (fun e=>by rcases e with e|e;omega;have:=(HH5.out.2.1.lt _ e).1;omega) (fun e=>by have:=HB2.out;have:=HBH.out;rcases e with e|e;omega;have:=(HH5.out.2.1.lt _ e).1;omega))
         ·exact HU5.out.then_ h2 (fun i e=>by rcases e with e|e;exact Or.inl (Or.inl e);exact Or.inr (by have:=(HH5.out.2.1.lt _ e).1;have:=HSI.out;omega))
       ·have HH5:=Qh hh5;clear hh5;go_wp2
        go_roundg (gk-1)
        case measure=>omega
        case rel=>exact⟨l1++l2,xs,A5,c5,hglen,HIT5,HSUB,Qh (by have:=HP.out;simp only[HY.out]at this;simpa[hy1]using this),HH5,HU5.out⟩
end
/- Orders,the document's:the first order that goes along. -/
section
open Go.RowKit
def Zpj (w:World) (xs:List Int) (e:Ending) (w':World):Prop:=∃A c,e= .returned (.slice A xs.length c)∧xs.length≤c∧Ints (fun i=>w.heap.size≤i) w' A xs∧Upd No w w'
set_option maxRecDepth 100000 in
theorem Zo4 (w:World) (F:Nat→Prop) (A:Option Addr) (c:Nat) (xs:List Int) (i:Nat) (h:Ints F w A xs) (hl:xs.length≤1000000) (hc:xs.length≤c) (hi:i<xs.length):
  Calls Tryz.prog 149 #[.slice A xs.length c,.int .i64 i] w (Zpj w (xs.take i++xs.drop (i+1))):=by
 have h':=h.lt;have hcut1:=fun W=>ZdI W Z6 A xs.length c i (by omega)
 have hcut2:∀W,(Instr.slice 24 (.slice A xs.length c) (some (.int .i64 ((i:Int)+1))) none none).run Tryz.prog W= .ok (.slice (Zby A c (i+1) 1) (xs.length-(i+1)) (c-(i+1))) W:=fun W=>by
  have:=ZjN W Z6 A xs.length c (i+1) (by omega);rw[show(((i+1:Nat):Int))=(i:Int)+1 by omega]at this;exact this
 have L1:=Qh (show(xs.take i).length=i by rw[List.length_take];omega);have L2:=Qh (show(xs.drop (i+1)).length=xs.length-(i+1) by rw[List.length_drop]);have u1:=(Upd.refl No w).alloc (.cells #[] 3);have s1:=(((h'.cut (i:=0) hc).take (i:=i)).upd u1 (fun _ _=>id)).src;rw[List.drop_zero,L1.out]at s1
 have s2:Hid (∀W,Upd No w W→Src W (Zby A c (i+1) 1) (xs.length-(i+1)) 1 ((xs.drop (i+1)).map (Value.int .i64))):=by
  refine Qh fun W hu=> ?_
  have:=((h'.cut (i:=i+1) hc).upd hu (fun _ _=>id)).src;rw[L2.out]at this;exact this
 have tok:True:=trivial;have b0:(0:Int)≤(i:Int):=Qn _;have b1:(i:Int)≤1000000:=by omega
 go_enter Tryz.func149,Tryz.ntmps149
 go_wp2_with (first
  |(at_builtin;have _t:=tok;refine ZhI rfl rfl Z6 (v:= .slice (some ⟨w.heap.size,0,none⟩) 0 0) (n:=0) (xs:=[]) (by rfl) rfl (World.ownsRow_made w #[] 0 (Nat.le_refl _) (by decide) rfl) s1 (Ints.one_ _) (by omega) (by omega) (by simp) ?_;intro v1 w1 hown1 hupd1 hgrew1;clear tok;simp only[Nat.zero_add,List.nil_append]at hown1;obtain⟨A1,c1,rfl⟩:=ZaM hown1;have uw1:Upd No w w1:=u1.then_ hupd1 (fun j e=> .inr (Zff e)))
  |(at_builtin;refine ZhI rfl rfl Z6 (n:=i) (m:=xs.length-(i+1)) (by rfl) (by rfl) hown1 (s2.out _ uw1) (Ints.one_ _) (by omega) (by omega) (by exact uw1.size) ?_;intro v2 w2 hown2 hupd2 hgrew2))
 obtain⟨A2,c2,rfl⟩:=ZaM hown2;have hlt:=hown1.lt;have uw2:Upd No w w2:=uw1.then_ hupd2 (fun j e=> .inr (hlt j e).1);have L3:i+(xs.length-(i+1))=(xs.take i++xs.drop (i+1)).length:=by rw[List.length_append,L1.out,L2.out]
 rw[←List.map_append,L3]at hown2
 go_ret
 exact⟨A2,c2,by first|rfl|(rw[L3];rfl),ZfL hown2,Ints.of_own hown2,uw2⟩
def Zbx (p:Int→Bool):List Int→Nat→Int
 |[],_=> -1
 |x::l,i=>if p x then (i:Int) else Zbx p l (i+1)
theorem Zgv (p:Int→Bool):∀(l:List Int) (i:Nat),Zbx p l i= -1→l.find? p=none
 |[],_,_=>rfl
 |x::l,i,h=>by
  unfold Zbx at h
  cases hp:p x with
  |true=>rw[hp]at h;simp only[if_true]at h;omega
  |false=>rw[List.find?_cons,hp];rw[hp]at h;exact Zgv p l (i+1) h
theorem Zd2 (p:Int→Bool):∀(l:List Int) (i:Nat),Zbx p l i≠-1→∃l1 x l2,l=l1++x::l2∧Zbx p l i=((i+l1.length:Nat):Int)∧l.find? p=some x∧p x=true∧∀y∈l1,p y=false
 |[],_,h=>absurd rfl h
 |x::l,i,h=>by
  unfold Zbx at h ⊢
  cases hp:p x with
  |true=>exact⟨[],x,l,rfl,by simp,by rw[List.find?_cons,hp],hp,by simp⟩
  |false=>
   rw[hp]at h;obtain⟨l1,y,l2,h1,h2,h3,h4,h5⟩:=Zd2 p l (i+1) h;refine⟨x::l1,y,l2,by rw[h1];rfl,?_,by rw[List.find?_cons,hp];exact h3,h4,fun z hz=> ?_⟩
   ·simp only[Bool.false_eq_true,if_false];rw[h2,List.length_cons];omega
   ·rcases List.mem_cons.1 hz with rfl|hz
    ·exact hp
    ·exact h5 z hz
theorem ZmO (p:Int→Bool) (l:List Int) (i:Nat): -1≤Zbx p l i:=by
 by_cases h:Zbx p l i= -1
 ·omega
 ·obtain⟨_,_,_,_,h2,_⟩:=Zd2 p l i h;omega
theorem Zlq {p:Int→Bool} {L:List Int} {a:Int} (h:Zbx p L 0=a) (ha:¬a<0):∃(k:Nat) (x:Int) (hk:k<L.length),a=(k:Int)∧L[k]=x∧L.find? p=some x∧L.take k++L.drop (k+1)=L.erase x:=by
 obtain⟨l1,x,l2,rfl,h2,h3,h4,h5⟩:=Zd2 p L 0 (by omega);have hx:x∉l1:=fun hm=>by rw[h5 x hm]at h4;cases h4
 refine⟨l1.length,x,by simp,by rw[←h,h2];simp,by simp,h3,?_⟩;rw[List.erase_append_right _ hx,List.erase_cons_head,List.take_left,List.drop_append];simp
theorem Zkm {p:Int→Bool} {L:List Int} {k:Nat} {x:Int} (hk:k<L.length) (hx:L[k]=x):Zbx p (L.drop k) k=if p x then (k:Int) else Zbx p (L.drop (k+1)) (k+1):=by
 rw[List.drop_eq_getElem_cons hk,hx];rfl
theorem ZkS (ids:List Int):Zr [] ids=Zam ids:=ZfG (ZcI ids [] List.Pairwise.nil) (ZaR ids) fun a=>by rw[Zcp,ZaC];simp
theorem ZhT (s l:List Int) (x:Int):Zr s (l++[x])=Zp x (Zr s l):=by
 induction l generalizing s with
 |nil=>rfl
 |cons a l ih=>exact ih _
theorem Zku {l:List Edge} {k:Nat} {e:Edge} (hk:k<l.length) (he:l[k]=e) (L:List Int) (x:Int):ZF (l.drop k) L x=(!(decide (e.t=x)&&decide (e.f∈L))&&ZF (l.drop (k+1)) L x):=by
 rw[List.drop_eq_getElem_cons hk,he];rfl
end
end Go.Proofs.YtonblekdfinpkaaGreat
