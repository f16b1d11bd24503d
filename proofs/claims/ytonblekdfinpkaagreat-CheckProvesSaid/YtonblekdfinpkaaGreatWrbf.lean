/- The kinds of a phenomenon; who is next in an order. -/
import Derived.Shelf.SlicesG.CompactI
import Derived.Test.YtonblekdfinpkaaGreatWrab
import Derived.Test.YtonblekdfinpkaaGreatWrae
import Derived.Test.YtonblekdfinpkaaGreatWras
import Derived.Test.YtonblekdfinpkaaGreatWray
import Derived.Test.YtonblekdfinpkaaGreatWrbb
namespace Go.Proofs.YtonblekdfinpkaaGreat
set_option linter.unusedVariables false
set_option linter.unusedSimpArgs false
section
open Go.RowKit
def Zan (p:Int):Int:=if p=1 then 2 else if p=4 then 6 else if p=5 then 14 else 0
def ZaS (p:Int):Int:=if p=5 then 8 else 0
theorem ZkZ (w:World) (p:Int):Calls Tryz.prog 23 #[.int .i64 p] w fun e w'=>e= .returned (.tuple #[.int .i64 (Zan p),.int .i64 (ZaS p)])∧w=w':=by
 by_cases h1:p=1
 ·subst h1
  go_enter Tryz.func23,Tryz.ntmps23
  go_wp2
  go_ret2
  exact⟨rfl,rfl⟩
 ·by_cases h4:p=4
  ·subst h4
   go_enter Tryz.func23,Tryz.ntmps23
   go_wp2
   go_ret2
   exact⟨rfl,rfl⟩
  ·by_cases h5:p=5
   ·subst h5
    go_enter Tryz.func23,Tryz.ntmps23
    go_wp2
    go_ret2
    exact⟨rfl,rfl⟩
   ·have b1:(p==1)=false:=by simpa using h1
    have b4:(p==4)=false:=by simpa using h4
    have b5:(p==5)=false:=by simpa using h5
    have hm:=Qh (show Zan p=0 by unfold Zan;rw[if_neg h1,if_neg h4,if_neg h5]);have hu:=Qh (show ZaS p=0 by unfold ZaS;rw[if_neg h5]);clear h1 h4 h5
    go_enter Tryz.func23,Tryz.ntmps23
    go_wp2
    go_ret2
    exact⟨by rw[hm.out,hu.out];rfl,rfl⟩
def Zm (l:List Int) (x:Int):Nat:=l.findIdx (·==x)
theorem Znz (l:List Int) (x:Int):Lib.idxOf l x=if Zm l x<l.length then (Zm l x:Int) else -1:=by
 by_cases h:Zm l x<l.length
 ·rw[if_pos h]
  have h1:=Lib.idxOf_hit l l.length (Zm l x) x h (Nat.le_refl _) (by
   rw[List.getD_eq_getElem?_getD,Qg h];have:=List.findIdx_getElem (p:=(·==x)) (xs:=l) (w:=h);rw[beq_iff_eq]at this;exact this) (fun j hj=>by
   have hjl:j<l.length:=Nat.lt_trans hj h;rw[List.getD_eq_getElem?_getD,Qg hjl];have:=List.not_of_lt_findIdx (p:=(·==x)) (xs:=l) hj
   simpa using this)
  rwa [List.take_length]at h1
 ·rw[if_neg h]
  have h1:=Lib.idxOf_miss l l.length x (fun j hj=>by
   rw[List.getD_eq_getElem?_getD,Qg hj];have hlt:j<l.findIdx (·==x):=Nat.lt_of_lt_of_le hj (Nat.le_of_not_lt h);have:=List.not_of_lt_findIdx (p:=(·==x)) (xs:=l) hlt
   simpa using this)
  rwa [List.take_length]at h1
theorem Ztz (F:Nat→Prop) (w:World) (A:Option Addr) (c:Nat) (l:List Int) (x:Int) (h:Ints F w A l) (hl:l.length≤17592186044415):
  Calls Tryz.prog 231 #[.slice A l.length c,.int .i64 x] w fun e w'=>e= .returned (.int .i64 (if Zm l x<l.length then (Zm l x:Int) else -1))∧w=w':=by
 rw[←Znz]
 by_cases h0:l=[]
 ·subst h0;refine Calls.mono (AnyG.slices_Index_int_empty Ziu A c x w) ?_;rintro e w' ⟨rfl,rfl⟩;exact⟨rfl,rfl⟩
 ·obtain⟨b,o,rfl,hc⟩:=h.cells_ h0;refine Calls.mono (AnyG.slices_Index_int Ziu b o l.length c l x w (Nat.le_refl _) (by omega) hc) ?_;rintro e w' ⟨rfl,rfl⟩;rw[List.take_length];exact⟨rfl,rfl⟩
def Zbw (l:List Int) (tx:Int):Option Int:=if tx=0 then l[0]? else if Zm l tx<l.length then l[Zm l tx+1]? else none
def ZpY (w:World) (o:Option Int) (e:Ending) (w':World):Prop:=e= .returned (match o with|some x=> .tuple #[.int .i64 x,.bool true]|none=> .tuple #[.int .i64 0,.bool false])∧Upd No w w'
theorem Zuv (F:Nat→Prop) (w:World) (A:Option Addr) (c:Nat) (l:List Int) (tx:Int) (h:Ints F w A l) (hl:l.length≤17592186044415):
  Calls Tryz.prog 194 #[.slice A l.length c,.int .i64 tx] w (ZpY w (Zbw l tx)):=by
 by_cases h0:tx=0
 ·have hn:=Qh (show Zbw l tx=l[0]? by unfold Zbw;rw[if_pos h0])
  by_cases hz:l.length=0
  ·have hn2:=Qh (show Zbw l tx=none by rw[hn.out];exact List.getElem?_eq_none (by omega));have hzb:((0:Int)==(l.length:Int))=true:=by rw[beq_iff_eq];omega
   have h0b:(tx != 0)=false:=by rw[h0];rfl
   have Hz:=Qh hz;clear hz h0
   go_enter Tryz.func194,Tryz.ntmps194
   go_wp2
   go_ret2
   exact⟨by rw[hn2.out];rfl,Upd.refl _ _⟩
  ·have hp:0<l.length:=by omega
   have hn2:=Qh (show Zbw l tx=some l[0] by rw[hn.out];exact Qg hp);have hzb:((0:Int)==(l.length:Int))=false:=by rw[beq_eq_false_iff_ne];omega
   have h0b:(tx != 0)=false:=by rw[h0];rfl
   obtain⟨ad,hA,_,_,hc⟩:=h.at_ hp;have ha:ad.add 0=ad:=by unfold Addr.add;simp
   rw[ha]at hc;subst hA;have hpI:(0:Int)<(l.length:Int):=by omega
   clear hz h0 ha
   go_enter Tryz.func194,Tryz.ntmps194
   go_wp2
   go_ret2
   exact⟨by rw[hn2.out];rfl,Upd.refl _ _⟩
 ·have h0b:(tx != 0)=true:=by simpa using h0
  have hn:=Qh (show Zbw l tx=if Zm l tx<l.length then l[Zm l tx+1]? else none by unfold Zbw;rw[if_neg h0]);clear h0;have hidx:=Ztz F w A c l tx h hl
  by_cases hp:Zm l tx<l.length
  ·rw[if_pos hp]at hidx;have Hidx:=Qh hidx;clear hidx;obtain⟨k,hk⟩:∃k,Zm l tx=k:=⟨_,rfl⟩;rw[hk]at Hidx hn hp;clear hk;have hkb:((k:Int)+1==0)=false:=by rw[beq_eq_false_iff_ne];omega
   have hk0:(0:Int)≤(k:Int)+1:=by omega
   by_cases he:k+1=l.length
   ·have hn2:=Qh (show Zbw l tx=none by rw[hn.out,if_pos hp];exact List.getElem?_eq_none (by omega));have heb:((k:Int)+1==(l.length:Int))=true:=by rw[beq_iff_eq];omega
    have He:=Qh he;clear he
    go_enter Tryz.func194,Tryz.ntmps194
    go_wp2_with fail
    refine(Hidx.out).mono ?_;rintro e w1 ⟨rfl,rfl⟩;go_wp2
    go_ret2
    exact⟨by rw[hn2.out];rfl,Upd.refl _ _⟩
   ·have hlt:k+1<l.length:=by omega
    have hn2:=Qh (show Zbw l tx=some l[k+1] by rw[hn.out,if_pos hp];exact Qg hlt);have heb:((k:Int)+1==(l.length:Int))=false:=by rw[beq_eq_false_iff_ne];omega
    obtain⟨ad,hA,_,_,hc⟩:=h.at_ hlt;subst hA
    have hc2:w.cell? ⟨ad.block,ad.off+(k+1),none⟩=some (.int .i64 l[k+1]):=by
     rw[←hc]
     congr 1
    have hltI:(k:Int)+1<(l.length:Int):=by omega
    clear he
    go_enter Tryz.func194,Tryz.ntmps194
    go_wp2_with fail
    refine(Hidx.out).mono ?_;rintro e w1 ⟨rfl,rfl⟩;go_wp2
    go_ret2
    exact⟨by rw[hn2.out];rfl,Upd.refl _ _⟩
  ·rw[if_neg hp]at hidx;have Hidx:=Qh hidx;clear hidx;have hn2:=Qh (show Zbw l tx=none by rw[hn.out,if_neg hp]);clear hp
   go_enter Tryz.func194,Tryz.ntmps194
   go_wp2_with fail
   refine(Hidx.out).mono ?_;rintro e w1 ⟨rfl,rfl⟩;go_wp2
   go_ret2
   exact⟨by rw[hn2.out];rfl,Upd.refl _ _⟩
end
/- The order of a key. -/
section
open Go.RowKit
theorem ZmK (w:World) (o:HOp):Calls Tryz.prog 157 #[.agg o.cells.toArray] w fun e w'=>e= .returned (.bool (!o.read))∧Upd No w w':=by
 unfold HOp.cells
 go_enter Tryz.func157,Tryz.ntmps157
 go_wp2
 go_ret
 exact⟨rfl,(Upd.refl _ _).alloc _⟩
theorem Zlw (w:World) (o:HOrd) (p:Addr) (key:Int) (hp:w.cell? p=some (.int .i64 key)):Calls Tryz.prog 232 #[.agg o.cells.toArray,.pointer (some p)] w fun e w'=>e= .returned (.bool (o.key==key))∧Upd No w w':=by
 unfold HOrd.cells;have hp1:=((Upd.refl No w).alloc (.cells #[.int .i64 o.key,.slice o.A o.txs.length o.c] 102)).keepNo hp
 go_enter Tryz.func232,Tryz.ntmps232
 go_wp2
 go_ret
 exact⟨rfl,(Upd.refl _ _).alloc _⟩
def Zdf (l:List HOrd) (key:Int):Nat:=l.findIdx fun o=>o.key==key
def ZfG (l:List HOrd) (key:Int):Int:=if Zdf l key<l.length then (Zdf l key:Int) else -1
theorem ZkX {l:List HOrd} {key:Int} {k:Nat} (hk:k<l.length) (h:∀(j:Nat) (hj:j<k),((l[j]'(by omega)).key==key)=false) (h1:(l[k].key==key)=true):Zdf l key=k:=by
 unfold Zdf;rw[List.findIdx_eq hk];exact⟨h1,fun j hj=>by simp only[h j hj]⟩
theorem ZoN {l:List HOrd} {key:Int} (h:∀(j:Nat) (hj:j<l.length),(l[j].key==key)=false):Zdf l key=l.length:=by
 unfold Zdf;rw[List.findIdx_eq_length];intro x hx;obtain⟨k,hk,rfl⟩:=List.mem_iff_getElem.1 hx;simp only[h k hk]
set_option maxRecDepth 100000 in
theorem ZuD (F:Nat→Prop) (w:World) (B:Option Addr) (d:Nat) (l:List HOrd) (p:Addr) (key:Int) (H:Recs F w B 2 (l.map HOrd.cells)) (hl:l.length≤4398046511103) (hp:w.cell? p=some (.int .i64 key)):
  Calls Tryz.prog 158 #[.slice B l.length d,.func (.func 232) #[] #[.pointer (some p)]] w fun e w'=>e= .returned (.int .i64 (ZfG l key))∧Upd No w w':=by
 go_enter Tryz.func158,Tryz.ntmps158
 go_wp2
 go_loopg [8] l.length (fun gk s wr=>∃k:Nat,k+gk=l.length∧s= .int .i64 k∧Hid (∀(j:Nat) (hj:j<l.length),j<k→(l[j].key==key)=false)∧Upd No w wr)
 case atStart=>exact⟨0,by omega,rfl,Qh (fun j _ hj=>by omega),Upd.refl _ _⟩
 case round=>
  obtain⟨k,hgk,rfl,hall,hu⟩:=hrel
  by_cases hlt:k<l.length
  ·have hk':k<(l.map HOrd.cells).length:=by simpa using hlt
   obtain⟨ad,hB,_,_,hc⟩:=Recs.at_ (Recs.upd H hu (fun _ _=>id)) hk';rw[List.getElem_map]at hc;obtain⟨x,hx⟩:∃x,l[k]=x:=⟨_,rfl⟩;rw[hx]at hc;have c0:wr.cell? (ad.add (k*2))=some (.int .i64 x.key):=by simpa using hc 0 _ rfl
   have c1:wr.cell? ⟨(ad.add (k*2)).block,(ad.add (k*2)).off+1,none⟩=some (.slice x.A x.txs.length x.c):=by simpa using hc 1 _ rfl
   have hpr:=hu.keepNo hp;subst hB;have X:=Qh hx;have b2:(k:Int)<(l.length:Int):=by omega
   have b1:(0:Int)≤(k:Int):=Qn _;clear hx hc hk'
   by_cases he:(x.key==key)=true
   ·have hpos:=Qh (show ZfG l key=(k:Int) by unfold ZfG;rw[ZkX (l:=l) (key:=key) hlt (fun j hj=>hall.out j (by omega) hj) (by rw[X.out];exact he),if_pos hlt]);have He:=Qh he;clear he
    go_wp2_with fail
    refine(Zlw _ x p key hpr).mono ?_;rintro e w1 ⟨hee,hu1⟩;rw[He.out]at hee;subst hee;go_wp2
    go_ret
    exact⟨by rw[hpos.out];rfl,hu.trans hu1⟩
   ·have hef:(x.key==key)=false:=by simpa using he
    have He:=Qh hef;clear he hef
    go_wp2_with fail
    refine(Zlw _ x p key hpr).mono ?_;rintro e w1 ⟨hee,hu1⟩;rw[He.out]at hee;subst hee;go_wp2
    go_roundg (gk-1)
    case measure=>omega
    case rel=>exact⟨k+1,by omega,by go_num,Qh (fun j hj hjk=>by
      by_cases e:j=k
      ·subst e;rw[X.out];exact He.out
      ·exact hall.out j hj (by omega)),hu.trans hu1⟩
  ·obtain rfl:k=l.length:=by omega
   have hpos:=Qh (show ZfG l key= -1 by unfold ZfG;rw[ZoN (l:=l) (key:=key) fun j hj=>hall.out j hj hj,if_neg (by omega)]);go_wp2
   go_ret
   exact⟨by rw[hpos.out];rfl,hu⟩
def ZaZ (l:List HOrd) (key:Int):List Int:=match l[Zdf l key]? with|some o=>o.txs|none=>[]
set_option maxRecDepth 100000 in
theorem Zvq (F:Nat→Prop) (w:World) (h:Hist) (key:Int) (H:h.lies F w):Calls Tryz.prog 195 #[h.val,.int .i64 key] w (ZcY w (ZaZ h.ords key)):=by
 obtain⟨txs,ords,A,c,B,d⟩:=h;unfold Hist.val;have hfo:=H.fewo;simp only at hfo;have u0:=((Upd.refl No w).alloc (.cells #[.slice A txs.length c,.slice B ords.length d] 50)).alloc (.cells #[.int .i64 key] 3);have b0:=(Blk.new w 50 [.slice A txs.length c,.slice B ords.length d]).alloc (.cells #[.int .i64 key] 3);have b1:=Blk.new (w.alloc (.cells #[.slice A txs.length c,.slice B ords.length d] 50)) 3 [.int .i64 key];simp only[World.size_alloc]at b1;have p1:=b1.cell 0;simp only[Qz]at p1;have hi:=ZuD F _ B d ords ⟨w.heap.size+1,0,none⟩ key (Recs.upd H.ords u0 (fun _ _=>id)) hfo p1;have Hi:=Qh hi;have B0:=Qh b0;have U0:=Qh u0;clear hi b0 b1 u0 p1
 by_cases hp:Zdf ords key<ords.length
 ·have hx1:=Qh (show ZfG ords key=(Zdf ords key:Int) by unfold ZfG;rw[if_pos hp]);obtain⟨k,hk⟩:∃k,Zdf ords key=k:=⟨_,rfl⟩;rw[hk]at hx1 hp;have ho:=Qh (show ZaZ ords key=ords[k].txs by unfold ZaZ;rw[hk,Qg hp]);clear hk;have b2:(k:Int)<(ords.length:Int):=by omega
  have b1:(0:Int)≤(k:Int):=Qn _;have b3:¬(k:Int)<0:=by omega
  go_enter Tryz.func195,Tryz.ntmps195
  go_wp2_with fail
  refine(Hi.out).mono ?_;rintro e w1 ⟨he,hu1⟩;rw[hx1.out]at he;subst he;have hu:Upd No w w1:=U0.out.trans hu1;have g1:w1.cell? ⟨w.heap.size,1,none⟩=some (.slice B ords.length d):=(B0.out.upd hu1 id).cell 1;have H1:=H.upd hu (fun _ _=>id);obtain⟨ad,hB,c0,c1⟩:=H1.ord_at hp;have hlo:=H1.ord ords[k] (List.getElem_mem hp);simp only at hB c0 c1;subst hB;have HL:=Qh hlo;clear hlo H1
  go_wp2_with fail
  refine(Zlv F _ ords[k].A ords[k].c ords[k].txs HL.out.1 HL.out.2.2.1).mono ?_;rintro e w2 ⟨A2,c2,rfl,ho2,hu2⟩;have HO:=Qh (And.intro ho2 hu2);clear ho2 hu2;go_wp2
  go_ret
  refine⟨A2,c2,by rw[ho.out];rfl,?_,hu.trans HO.out.2⟩;rw[ho.out];exact Zah HO.out.1 hu.size
 ·have hx1:=Qh (show ZfG ords key= -1 by unfold ZfG;rw[if_neg hp]);have ho:=Qh (show ZaZ ords key=[] by unfold ZaZ;rw[List.getElem?_eq_none (by omega)]);clear hp
  go_enter Tryz.func195,Tryz.ntmps195
  go_wp2_with fail
  refine(Hi.out).mono ?_;rintro e w1 ⟨he,hu1⟩;rw[hx1.out]at he;subst he;have hu:Upd No w w1:=U0.out.trans hu1;go_wp2
  go_ret
  refine⟨none,0,by rw[ho.out];rfl,?_,hu⟩;rw[ho.out];exact World.ownsRow_nil _ _ _ _
end
/- What the program tells of histories,in plain words:needs,keys,writers,right;and of edges,reads and witnesses. -/
section
open Go.RowKit
def ZcH (id:Int) (o:HOp):Bool:=o.read&& !((Zw o).tx==0)&& !((Zw o).tx==id)
def ZaC (id:Int) (l:List HOp):Nat→List Ver
 |0=>[]
 |k+1=>
  match l[k]? with
  |some o=>if ZcH id o&& !(ZaC id l k).contains (Zw o) then ZaC id l k++[Zw o] else ZaC id l k
  |none=>ZaC id l k
def Zif (id:Int) (l:List HOp):List Ver:=ZaC id l l.length
def ZaI (txs:List HTx) (v:Ver):Bool:=
 if v.tx=0∧v.nth=0 then idB v.key
 else match Zp txs v.tx with
  |some t=>decide (1≤v.nth)&&decide (v.nth≤(Z1 t.ops v.key:Int))
  |none=>false
def Zb4 (txs:List HTx) (id:Int) (l:List HOp):Bool:=(Zif id l).all (ZaI txs)
def ZbF (l:List HOp) (f:HOp→Bool):List Int:=(l.filter f).map (·.key)
def ZcO (l:List HOp):List Int:=ZL (ZbF l fun o=> !o.read)
def ZeE (s:List Int):List Int→List Int
 |[]=>s
 |k::l=>ZeE (if k∈s then s else s++[k]) l
def Zal:List HTx→List Int→List Int
 |[],s=>s
 |t::l,s=>Zal l (if t.done then ZeE s (ZcO t.ops) else s)
def Zy (txs:List HTx) (key:Int):List Int:=(txs.filter fun t=>t.done&&(ZcO t.ops).contains key).map (·.id)
def ZeT (txs:List HTx) (i:Nat):Bool:=
 match txs[i]? with
 |none=>true
 |some t=>(match i with|0=>true|j+1=>(match txs[j]? with|some u=>decide (u.id<t.id)|none=>true))&&ZaQ t.id t.ops==0&&Zb4 txs t.id t.ops
def ZdE (txs:List HTx) (ords:List HOrd) (i:Nat):Bool:=
 match ords[i]? with
 |none=>true
 |some o=>(match i with|0=>true|j+1=>(match ords[j]? with|some u=>decide (u.key<o.key)|none=>true))&& !o.txs.isEmpty&&(Zbt o.txs==Zbt (Zy txs o.key))
def Zb (h:Hist):Bool:=
 decide (h.txs.length≤4096)&&(List.range h.txs.length).all (ZeT h.txs)&&(Zal h.txs []).length==h.ords.length&&(List.range h.ords.length).all (ZdE h.txs h.ords)
def Zk (txs:List HTx) (id:Int):Option HTx:=match Zp txs id with|some t=>if t.done then some t else none|none=>none
def Zao (txs:List HTx) (v:Ver):Bool:=if v.tx=0 then true else match Zk txs v.tx with|some t=>v.nth==(Z1 t.ops v.key:Int)|none=>false
def Za0 (ords:List HOrd) (key x y:Int):Bool:=Zbw (ZaZ ords key) x==some y
def Za3 (id:Int) (l:List HOp) (key:Int) (counts:Ver→Bool):Bool:=l.any fun o=>o.read&&o.key==key&& !(o.tx==id)&&counts (Zw o)
def ZN (h:Hist) (e:Edge):Bool:=
 match Zk h.txs e.f,Zk h.txs e.t with
 |some a,some b=>
  if e.f=e.t then false
  else if e.k=1 then Za0 h.ords e.key e.f e.t
  else if e.k=2 then Za3 b.id b.ops e.key fun v=>v.tx==e.f&&Zao h.txs v
  else if e.k=3 then Za3 a.id a.ops e.key fun v=>Zao h.txs v&&Za0 h.ords e.key v.tx e.t
  else false
 |_,_=>false
structure HBad where
 tx:Int
 place:Int
 of:Ver
deriving DecidableEq
def HBad.cells (b:HBad):List Value:=[.int .i64 b.tx,.int .i64 b.place,.int .i64 b.of.tx,.int .i64 b.of.key,.int .i64 b.of.nth]
def ZaK (txs:List HTx) (p:Int) (b:HBad):Bool:=
 match Zk txs b.tx with
 |none=>false
 |some t=>
  if b.place<0 then false
  else match t.ops[b.place.toNat]? with
   |none=>false
   |some o=>
    if !o.read|| !(Zw o==b.of)||o.tx==0||o.tx==t.id then false
    else if p=2 then (match Zp txs o.tx with|some u=> !u.done|none=>true)
    else if p=3 then decide (o.nth<(Z1 (match Zp txs o.tx with|some u=>u.ops|none=>[]) o.key:Int))
    else false
def Zfe (m p:Int):Bool:=(bits .andNot .i64 m (Zan p)==0)&&(ZaS p==0|| !(bits .and .i64 m (ZaS p)==0))
def Zcx:HBad:=⟨0,0,⟨0,0,0⟩⟩
def Zl (h:Hist) (p:Int) (l:List Edge) (b:HBad):Bool:=
 Zb h&&(if p=2∨p=3 then decide (l.length=0)&&ZaK h.txs p b
  else !(Zan p==0)&&b==Zcx&&ZaP l&&Zfe (Zck l) p&&l.all (ZN h))
/-! from any place -/
end
/- The keys that a transaction writes. -/
section
open Go.RowKit
theorem Zhy (w:World) (base:Nat) (A:Option Addr) (c:Nat) (l:List Int) (hown:w.ownsRow base 3 1 (.slice A l.length c) l.length (l.map (Value.int .i64))) (hl:l.length≤17592186044415):
  Calls Tryz.prog 208 #[.slice A l.length c] w fun e w'=>e= .returned (.slice A (Lib.compact l).length c)∧w'.ownsRow base 3 1 (.slice A (Lib.compact l).length c) (Lib.compact l).length ((Lib.compact l).map (Value.int .i64))∧Upd (Own (.slice A l.length c)) w w':=by
 rcases hown.2 with ⟨hv,hn⟩|⟨g,cap,cur,hv,hbg,hg,hnc,hcm,hcs,htake⟩
 ·have hl0:l=[]:=List.eq_nil_of_length_eq_zero hn;subst hl0;refine Calls.mono (AnyG.slices_Compact_int_empty Zgu A c w) ?_;rintro e w' ⟨rfl,rfl⟩;exact⟨rfl,hown,Upd.refl _ _⟩
 ·cases hv
  have hb:Blk w g 3 cur.toList:=by unfold Blk;rw[Array.toArray_toList];exact hg
  have hcs':cur.size=c:=by simpa using hcs
  have htake':cur.toList.take l.length=l.map (Value.int .i64):=by simpa using htake
  have hH:Sort.Holds (Value.int .i64) w g 0 l.toArray:=fun j hj=>by
   simp only[List.size_toArray]at hj;rw[Nat.zero_add];refine⟨?_,hb.free j⟩;rw[hb.cell j];have h1:(cur.toList.take l.length)[j]? =cur.toList[j]? :=by rw[List.getElem?_take,if_pos hj]
   rw[←h1,htake',List.getElem?_map,Qg hj];simp[hj]
  have hlt:=hb.lt;have hcl:(Lib.compact l).length≤l.length:=by rw[ZiK];exact Zjg _ _
  refine Calls.mono (AnyG.slices_Compact_int Zgu g 0 c l w hH (by omega) hnc) ?_;rintro e w' ⟨rfl,q,rfl⟩;obtain⟨R,hR,hRl⟩:∃R:List Int,R=Lib.compact l++List.replicate (l.length-(Lib.compact l).length) 0∧R.length=l.length:=⟨_,rfl,by simp;omega⟩
  have e1:(Sort.putRow (Value.int .i64) (Sort.ahead w q) g 0 (Lib.compact l++List.replicate (l.length-(Lib.compact l).length) 0).toArray).heap[g]? =some (.cells (Sort.putCells (Value.int .i64) 0 R.toArray cur) 3 (0,0)):=by
   unfold Sort.putRow Sort.mapBlock;simp only;rw[Array.getElem?_modify];simp only[if_true];rw[show(Sort.ahead w q).heap=w.heap from rfl,hg,hR];rfl
  rw[ZjA _ _ (by simp only[List.size_toArray];omega)]at e1;refine⟨rfl,⟨by simp,.inr ⟨g,c,_,rfl,hbg,e1,by omega,hcm,?_,?_⟩⟩,⟨rfl,rfl,rfl,?_,fun k hk hn=> ?_⟩⟩
  ·simp only[List.size_toArray,List.length_append,List.length_map,List.length_drop,Array.length_toList,hRl];omega
  ·rw[Nat.mul_one]
   show List.take _ (List.map (Value.int .i64) R++_)=_
   rw[hR,List.map_append,List.append_assoc,List.take_append_of_le_length (by simp),List.take_of_length_le (by simp)]
  ·unfold Sort.putRow Sort.mapBlock;simp only[Array.size_modify];exact Nat.le_refl _
  ·have hne:g≠k:=fun e=>hn (by unfold Own;rw[e];rfl)
   unfold Sort.putRow Sort.mapBlock;simp only;rw[Array.getElem?_modify,if_neg hne];rfl
theorem Znx {l:List HOp} {k:Nat} {x:HOp} (hk:k<l.length) (hx:l[k]=x) (hr:x.read=false):ZbF (l.take (k+1)) (fun o=> !o.read)=ZbF (l.take k) (fun o=> !o.read)++[x.key]:=by
 subst hx;unfold ZbF;rw[List.take_succ_eq_append_getElem hk,List.filter_append,List.map_append,List.filter_cons_of_pos (by rw[hr];rfl)];rfl
theorem Zpe {l:List HOp} {k:Nat} {x:HOp} (hk:k<l.length) (hx:l[k]=x) (hr:x.read=true):ZbF (l.take (k+1)) (fun o=> !o.read)=ZbF (l.take k) (fun o=> !o.read):=by
 subst hx;unfold ZbF;rw[List.take_succ_eq_append_getElem hk,List.filter_append,List.map_append,List.filter_cons_of_neg (by rw[hr];decide)];simp
theorem Zpf (l:List HOp) (f:HOp→Bool):(ZbF l f).length≤l.length:=by
 unfold ZbF;rw[List.length_map];exact List.length_filter_le _ _
set_option maxRecDepth 100000 in
set_option maxHeartbeats 1000000 in
theorem ZuB (F:Nat→Prop) (w:World) (i0:Int) (dn:Bool) (A:Option Addr) (c:Nat) (l:List HOp) (h:HOps F w A l) (hl:Zq l.length):
  Calls Tryz.prog 156 #[.agg #[.int .i64 i0,.bool dn,.slice A l.length c],.func (.func 157) #[] #[]] w (ZcY w (ZcO l)):=by
 unfold Zq at hl
 go_enter Tryz.func156,Tryz.ntmps156
 go_wp2
 go_loopg [5,11] l.length (fun gk s i wr=>∃(k:Nat) (A5:Option Addr) (c5:Nat) (xs:List Int),k+gk=l.length∧i= .int .i64 k∧s= .slice A5 xs.length c5∧Hid (xs=ZbF (l.take k) fun o=> !o.read)∧xs.length≤k∧
  wr.ownsRow w.heap.size 3 1 (.slice A5 xs.length c5) xs.length (xs.map (Value.int .i64))∧Upd No w wr)
 case atStart=>exact⟨0,none,0,[],by omega,rfl,rfl,Qh (by simp[ZbF]),by simp,World.ownsRow_nil _ _ _ _,(Upd.refl _ _).alloc _⟩
 case round=>
  obtain⟨k,A5,c5,xs,hgk,rfl,rfl,hxs,hxl,hown,hu⟩:=hrel
  by_cases hlt:k<l.length
  ·obtain⟨ad,hAd,q0,q1,q2,q3⟩:=(h.upd hu (fun _ _=>id)).at_ hlt;obtain⟨x,hx⟩:∃x,l[k]=x:=⟨_,rfl⟩;rw[hx]at q0 q1 q2 q3;subst hAd;have X:=Qh hx;clear hx;have b1:(0:Int)≤(k:Int):=Qn _;have b2:(k:Int)<(l.length:Int):=by omega
   have uA:=(Upd.refl No wr).alloc (.cells #[.bool x.read,.int .i64 x.key,.int .i64 x.tx,.int .i64 x.nth] 82);have bo:=Blk.new wr 82 [.bool x.read,.int .i64 x.key,.int .i64 x.tx,.int .i64 x.nth];have hown1:=Za hown uA (fun _ _=>id)
   cases hr:x.read
   ·rw[hr]at q0 uA bo hown1;have HS:=Qh (Znx hlt X.out hr);have Hr:=Qh hr;clear hr
    go_wp2_with fail
    refine(ZmK _ ⟨false,x.key,x.tx,x.nth⟩).mono ?_;rintro e w1 ⟨rfl,hu1⟩;have bo1:=bo.upd hu1 id;have g1:=bo1.cell 1;simp only[Qz,Qs]at g1;have hown2:=Za hown1 hu1 (fun _ _=>id);have hz1:=(uA.trans hu1).size;have hz0:=hu.size;have Hu1:=Qh ((hu.trans uA).trans hu1);clear hown1 uA hu1
    go_wp2_with (at_builtin;refine Zb1 rfl rfl ZbA (v:= .slice A5 xs.length c5) (cells:=[.int .i64 x.key]) (by rfl) rfl hown2 rfl rfl (by omega) (by omega) (by omega) ?_;intro g' c' w2 hown3 hu3 hg3 hlt3)
    go_roundg (gk-1)
    case measure=>omega
    case rel=>
     refine⟨k+1,some ⟨g',0,none⟩,c',xs++[x.key],by omega,by go_num,by simp,Qh (by rw[HS.out,hxs.out]),by simp;omega,by simpa using hown3,Hu1.out.then_ hu3 fun i e=> ?_⟩;exact .inr (hown2.lt i e).1
   ·rw[hr]at q0 uA bo hown1;have HS:=Qh (Zpe hlt X.out hr);have Hr:=Qh hr;clear hr
    go_wp2_with fail
    refine(ZmK _ ⟨true,x.key,x.tx,x.nth⟩).mono ?_;rintro e w1 ⟨rfl,hu1⟩;have Hu1:=Qh ((hu.trans uA).trans hu1);have hown2:=Za hown1 hu1 (fun _ _=>id);clear hown1 uA hu1;go_wp2
    go_roundg (gk-1)
    case measure=>omega
    case rel=>exact⟨k+1,A5,c5,xs,by omega,by go_num,rfl,Qh (by rw[HS.out,hxs.out]),by omega,hown2,Hu1.out⟩
  ·obtain rfl:k=l.length:=by omega
   have Hx:=Qh (show xs=ZbF l fun o=> !o.read by rw[hxs.out,List.take_length]);clear hxs;have hsl:=Qh (ZbI xs);have Hk:=Qh (show Lib.compact (Z7 xs)=ZcO l by rw[Zdc,Hx.out];rfl)
   go_wp2_with fail
   refine(Zit _ _ A5 c5 xs hown (by omega)).mono ?_;rintro e w1 ⟨rfl,ho1,hu1⟩;have ho1':w1.ownsRow w.heap.size 3 1 (.slice A5 (Z7 xs).length c5) (Z7 xs).length ((Z7 xs).map (Value.int .i64)):=by rw[hsl.out];exact ho1
   have hic:=Zhy w1 w.heap.size A5 c5 (Z7 xs) ho1' (by rw[hsl.out];omega);rw[Hk.out,hsl.out]at hic;have Hic:=Qh hic;have hge:=Qh (show∀i,Own (.slice A5 xs.length c5) i→w.heap.size≤i from fun i e=>(hown.lt i e).1);clear hic ho1 ho1' hown
   go_wp2_with fail
   refine(Hic.out).mono ?_;rintro e w2 ⟨rfl,ho2,hu2⟩;go_wp2
   go_ret
   exact⟨A5,c5,rfl,ho2,(hu.then_ hu1 fun i e=> .inr (hge.out i e)).then_ hu2 fun i e=> .inr (hge.out i e)⟩
set_option maxRecDepth 100000 in
theorem ZuC (F:Nat→Prop) (w:World) (i0:Int) (dn:Bool) (A:Option Addr) (c:Nat) (l:List HOp) (h:HOps F w A l) (hl:Zq l.length):
  Calls Tryz.prog 77 #[.agg #[.int .i64 i0,.bool dn,.slice A l.length c]] w (ZcY w (ZcO l)):=by
 have h1:=h.upd ((Upd.refl No w).alloc (.cells #[.int .i64 i0,.bool dn,.slice A l.length c] 85)) (fun _ _=>id)
 go_enter Tryz.func77,Tryz.ntmps77
 go_wp2_with fail
 refine(ZuB F _ i0 dn A c l h1 hl).mono ?_;rintro e w1 ⟨A1,c1,rfl,ho,hu⟩;go_wp2
 go_ret
 exact⟨A1,c1,rfl,Zah ho (by simp),((Upd.refl No w).alloc _).trans hu⟩
end
/- Whether a version is there. -/
section
open Go.RowKit
theorem Zpo {txs:List HTx} {v:Ver} (h1:v.tx=0) (h2:v.nth=0):ZaI txs v=idB v.key:=by unfold ZaI;rw[if_pos ⟨h1,h2⟩]
theorem Zj1 {txs:List HTx} {v:Ver} (h:¬(v.tx=0∧v.nth=0)) (hf:Zp txs v.tx=none):ZaI txs v=false:=by unfold ZaI;rw[if_neg h,hf]
theorem Zj0 {txs:List HTx} {v:Ver} {t:HTx} (h:¬(v.tx=0∧v.nth=0)) (hf:Zp txs v.tx=some t):ZaI txs v=(decide (1≤v.nth)&&decide (v.nth≤(Z1 t.ops v.key:Int))):=by unfold ZaI;rw[if_neg h,hf]
section
variable (F:Nat→Prop) (w:World) (txs:List HTx) (ords:List HOrd) (A:Option Addr) (c:Nat) (B:Option Addr) (d:Nat) (i:Int)
theorem Zd2 (H:Hist.lies F w ⟨txs,ords,A,c,B,d⟩) (hf:Zp txs i=none):Calls Tryz.prog 74 #[.agg #[.slice A txs.length c,.slice B ords.length d],.int .i64 i] w fun e w'=>
  e= .returned (.tuple #[.agg #[.int .i64 0,.bool false,.slice none 0 0],.bool false])∧Upd No w w':=by
 refine(ZrF F w ⟨txs,ords,A,c,B,d⟩ i H).mono ?_;intro e w' h;unfold ZiT at h;rw[show Zp (Hist.txs ⟨txs,ords,A,c,B,d⟩) i=none from hf]at h;exact h
theorem Zct {t:HTx} (H:Hist.lies F w ⟨txs,ords,A,c,B,d⟩) (hf:Zp txs i=some t):Calls Tryz.prog 74 #[.agg #[.slice A txs.length c,.slice B ords.length d],.int .i64 i] w fun e w'=>
  ∃A' c',e= .returned (.tuple #[.agg #[.int .i64 t.id,.bool t.done,.slice A' t.ops.length c'],.bool true])∧t.ops.length≤c'∧HOps (fun i=>w.heap.size≤i) w' A' t.ops∧Upd No w w':=by
 refine(ZrF F w ⟨txs,ords,A,c,B,d⟩ i H).mono ?_;intro e w' h;unfold ZiT at h;rw[show Zp (Hist.txs ⟨txs,ords,A,c,B,d⟩) i=some t from hf]at h;obtain⟨⟨A',c',h1,h2,h3⟩,h4⟩:=h;exact⟨A',c',h1,h2,h3,h4⟩
end
theorem Zc7 {txs:List HTx} {i:Int} {t:HTx} (h:Zp txs i=some t):t∈txs:=List.mem_of_find?_eq_some h
set_option maxRecDepth 100000 in
set_option maxHeartbeats 1000000 in
theorem Zdk (F:Nat→Prop) (w:World) (h:Hist) (v:Ver) (H:h.lies F w):Calls Tryz.prog 168 #[h.val,.agg v.cells.toArray] w fun e w'=>e= .returned (.bool (ZaI h.txs v))∧Upd No w w':=by
 obtain⟨txs,ords,A,c,B,d⟩:=h;obtain⟨tx,key,nth⟩:=v;unfold Hist.val Ver.cells;have uu:=((Upd.refl No w).alloc (.cells #[.slice A txs.length c,.slice B ords.length d] 50)).alloc (.cells #[.int .i64 tx,.int .i64 key,.int .i64 nth] 36)
 by_cases h1:tx=0
 ·subst h1
  by_cases h2:nth=0
  ·subst h2;have hv:=Qh (Zpo (txs:=txs) (v:=⟨0,key,0⟩) rfl rfl);unfold idB at hv
   by_cases b1:1≤key
   ·by_cases b2:key≤1048575
    ·go_enter Tryz.func168,Tryz.ntmps168
     go_wp2
     go_ret
     exact⟨by rw[hv.out,decide_eq_true b1,decide_eq_true b2];rfl,uu⟩
    ·go_enter Tryz.func168,Tryz.ntmps168
     go_wp2
     go_ret
     exact⟨by rw[hv.out,decide_eq_false (show¬key≤1048575 by omega),Bool.and_false];rfl,uu⟩
   ·go_enter Tryz.func168,Tryz.ntmps168
    go_wp2
    go_ret
    exact⟨by rw[hv.out,decide_eq_false (show¬1≤key by omega),Bool.false_and];rfl,uu⟩
  ·have hne:¬((⟨0,key,nth⟩:Ver).tx=0∧(⟨0,key,nth⟩:Ver).nth=0):=fun e=>h2 e.2
   have h2b:(nth==0)=false:=by simpa using h2
   clear h2;have HH:=Qh (H.upd uu (fun _ _=>id));have b1:=Blk.new (w.alloc (.cells #[.slice A txs.length c,.slice B ords.length d] 50)) 36 [.int .i64 0,.int .i64 key,.int .i64 nth];simp only[World.size_alloc]at b1;have B1:=Qh b1;clear b1
   cases hf:Zp txs 0 with
   |none=>
    have hv:=Qh (Zj1 hne hf);have Hf:=Qh hf;clear hne hf
    go_enter Tryz.func168,Tryz.ntmps168
    go_wp2_with fail
    refine(Zd2 F _ txs ords A c B d 0 HH.out Hf.out).mono ?_;rintro e w1 ⟨rfl,hu1⟩;have bv:=(B1.out.upd hu1 id).alloc (.cells #[.int .i64 0,.bool false,.slice none 0 0] 85);have g0:=bv.cell 0;have g1:=bv.cell 1;have g2:=bv.cell 2;simp only[Qz,Qs]at g0 g1 g2;go_wp2
    go_quiet (fail)
    go_wp2
    go_ret
    exact⟨by rw[hv.out];rfl,((uu.trans hu1).alloc _).drewN _⟩
   |some t=>
    have hv:=Qh (Zj0 hne hf);have Hf:=Qh hf;have hfew:=Qh (H.tx t (Zc7 hf)).2.2.1;clear hne hf
    by_cases hn1:1≤nth
    ·go_enter Tryz.func168,Tryz.ntmps168
     go_wp2_with fail
     refine(Zct F _ txs ords A c B d 0 HH.out Hf.out).mono ?_;rintro e w1 ⟨A1,c1,rfl,hc1,hh1,hu1⟩;have bv:=(B1.out.upd hu1 id).alloc (.cells #[.int .i64 t.id,.bool t.done,.slice A1 t.ops.length c1] 85);have bt:=Blk.new w1 85 [.int .i64 t.id,.bool t.done,.slice A1 t.ops.length c1];have hh2:=HOps.upd hh1 ((Upd.refl No w1).alloc (.cells #[.int .i64 t.id,.bool t.done,.slice A1 t.ops.length c1] 85)) (fun _ _=>id);have g0:=bv.cell 0;have g1:=bv.cell 1;have g2:=bv.cell 2;have k0:=bt.cell 0;have k1:=bt.cell 1;have k2:=bt.cell 2;simp only[Qz,Qs]at g0 g1 g2 k0 k1 k2;have U1:=Qh ((uu.trans hu1).alloc (.cells #[.int .i64 t.id,.bool t.done,.slice A1 t.ops.length c1] 85));go_wp2
     go_region_held3 (fun w'=>w'.cell? ⟨w.heap.size+1,0,none⟩=some (.int .i64 0)∧w'.cell? ⟨w.heap.size+1,1,none⟩=some (.int .i64 key)∧w'.cell? ⟨w.heap.size+1,2,none⟩=some (.int .i64 nth)∧
       w'.cell? ⟨w1.heap.size,0,none⟩=some (.int .i64 t.id)∧w'.cell? ⟨w1.heap.size,1,none⟩=some (.bool t.done)∧w'.cell? ⟨w1.heap.size,2,none⟩=some (.slice A1 t.ops.length c1)∧Upd No w w')
      (first|exact⟨g0,g1,g2,k0,k1,k2,U1.out.drew⟩|exact⟨g0,g1,g2,k0,k1,k2,U1.out⟩|(go_split_ands;refine⟨?_,?_,?_,?_,?_,?_,?_⟩<;>first|assumption|(exact hu3.keepNo (by assumption))|(exact Upd.trans (by assumption) hu3)))
      ((go_at_call 135;refine(Ze9 _ _ t.id t.done A1 c1 t.ops key (by exact hh2) hfew.out).mono ?_;rintro e w3 ⟨rfl,hu3⟩))
     go_wp2
     go_ret
     exact⟨by rw[hv.out,decide_eq_true hn1];rfl,(by go_split_ands;assumption)⟩
    ·go_enter Tryz.func168,Tryz.ntmps168
     go_wp2_with fail
     refine(Zct F _ txs ords A c B d 0 HH.out Hf.out).mono ?_;rintro e w1 ⟨A1,c1,rfl,hc1,hh1,hu1⟩;have bv:=(B1.out.upd hu1 id).alloc (.cells #[.int .i64 t.id,.bool t.done,.slice A1 t.ops.length c1] 85);have g0:=bv.cell 0;have g1:=bv.cell 1;have g2:=bv.cell 2;simp only[Qz,Qs]at g0 g1 g2;have hnb:decide (1≤nth)=false:=decide_eq_false (by omega);go_wp2
     go_quiet (fail)
     go_wp2
     go_ret
     exact⟨by rw[hv.out,decide_eq_false (show¬1≤nth by omega),Bool.false_and];rfl,((uu.trans hu1).alloc _).drewN _⟩
 ·have hne:¬((⟨tx,key,nth⟩:Ver).tx=0∧(⟨tx,key,nth⟩:Ver).nth=0):=fun e=>h1 e.1
  have h1b:(tx==0)=false:=by simpa using h1
  clear h1;have HH:=Qh (H.upd uu (fun _ _=>id));have b1:=Blk.new (w.alloc (.cells #[.slice A txs.length c,.slice B ords.length d] 50)) 36 [.int .i64 tx,.int .i64 key,.int .i64 nth];simp only[World.size_alloc]at b1;have B1:=Qh b1;clear b1
  cases hf:Zp txs tx with
  |none=>
   have hv:=Qh (Zj1 hne hf);have Hf:=Qh hf;clear hne hf
   go_enter Tryz.func168,Tryz.ntmps168
   go_wp2_with fail
   refine(Zd2 F _ txs ords A c B d tx HH.out Hf.out).mono ?_;rintro e w1 ⟨rfl,hu1⟩;have bv:=(B1.out.upd hu1 id).alloc (.cells #[.int .i64 0,.bool false,.slice none 0 0] 85);have g0:=bv.cell 0;have g1:=bv.cell 1;have g2:=bv.cell 2;simp only[Qz,Qs]at g0 g1 g2;go_wp2
   go_quiet (fail)
   go_wp2
   go_ret
   exact⟨by rw[hv.out];rfl,((uu.trans hu1).alloc _).drewN _⟩
  |some t=>
   have hv:=Qh (Zj0 hne hf);have Hf:=Qh hf;have hfew:=Qh (H.tx t (Zc7 hf)).2.2.1;clear hne hf
   by_cases hn1:1≤nth
   ·go_enter Tryz.func168,Tryz.ntmps168
    go_wp2_with fail
    refine(Zct F _ txs ords A c B d tx HH.out Hf.out).mono ?_;rintro e w1 ⟨A1,c1,rfl,hc1,hh1,hu1⟩;have bv:=(B1.out.upd hu1 id).alloc (.cells #[.int .i64 t.id,.bool t.done,.slice A1 t.ops.length c1] 85);have bt:=Blk.new w1 85 [.int .i64 t.id,.bool t.done,.slice A1 t.ops.length c1];have hh2:=HOps.upd hh1 ((Upd.refl No w1).alloc (.cells #[.int .i64 t.id,.bool t.done,.slice A1 t.ops.length c1] 85)) (fun _ _=>id);have g0:=bv.cell 0;have g1:=bv.cell 1;have g2:=bv.cell 2;have k0:=bt.cell 0;have k1:=bt.cell 1;have k2:=bt.cell 2;simp only[Qz,Qs]at g0 g1 g2 k0 k1 k2;have U1:=Qh ((uu.trans hu1).alloc (.cells #[.int .i64 t.id,.bool t.done,.slice A1 t.ops.length c1] 85));go_wp2
    go_region_held3 (fun w'=>w'.cell? ⟨w.heap.size+1,0,none⟩=some (.int .i64 tx)∧w'.cell? ⟨w.heap.size+1,1,none⟩=some (.int .i64 key)∧w'.cell? ⟨w.heap.size+1,2,none⟩=some (.int .i64 nth)∧
      w'.cell? ⟨w1.heap.size,0,none⟩=some (.int .i64 t.id)∧w'.cell? ⟨w1.heap.size,1,none⟩=some (.bool t.done)∧w'.cell? ⟨w1.heap.size,2,none⟩=some (.slice A1 t.ops.length c1)∧Upd No w w')
     (first|exact⟨g0,g1,g2,k0,k1,k2,U1.out.drew⟩|exact⟨g0,g1,g2,k0,k1,k2,U1.out⟩|(go_split_ands;refine⟨?_,?_,?_,?_,?_,?_,?_⟩<;>first|assumption|(exact hu3.keepNo (by assumption))|(exact Upd.trans (by assumption) hu3)))
     ((go_at_call 135;refine(Ze9 _ _ t.id t.done A1 c1 t.ops key (by exact hh2) hfew.out).mono ?_;rintro e w3 ⟨rfl,hu3⟩))
    go_wp2
    go_ret
    exact⟨by rw[hv.out,decide_eq_true hn1];rfl,(by go_split_ands;assumption)⟩
   ·go_enter Tryz.func168,Tryz.ntmps168
    go_wp2_with fail
    refine(Zct F _ txs ords A c B d tx HH.out Hf.out).mono ?_;rintro e w1 ⟨A1,c1,rfl,hc1,hh1,hu1⟩;have bv:=(B1.out.upd hu1 id).alloc (.cells #[.int .i64 t.id,.bool t.done,.slice A1 t.ops.length c1] 85);have g0:=bv.cell 0;have g1:=bv.cell 1;have g2:=bv.cell 2;simp only[Qz,Qs]at g0 g1 g2;have hnb:decide (1≤nth)=false:=decide_eq_false (by omega);go_wp2
    go_quiet (fail)
    go_wp2
    go_ret
    exact⟨by rw[hv.out,decide_eq_false (show¬1≤nth by omega),Bool.false_and];rfl,((uu.trans hu1).alloc _).drewN _⟩
end
/- Whether a history is right,by the document. -/
section
open Go.RowKit
theorem Zoq {id:Int} {l:List HOp} (h:ZaQ id l=0):l.length≤4095:=by
 unfold ZaQ at h
 split at h
 ·cases h
 ·split at h
  ·cases h
  ·omega
section
variable {F:Nat→Prop} {w:World} {txs:List HTx} {ords:List HOrd} {A:Option Addr} {c:Nat} {B:Option Addr} {d:Nat} {i0:Int} {dn:Bool} {A1:Option Addr} {c1:Nat} {l:List HOp}
end
end
end Go.Proofs.YtonblekdfinpkaaGreat
