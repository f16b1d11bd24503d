/- Edges of a history: maps that count. -/
import Derived.Test.YtblplapkdmhikaaGreatDbar
import Derived.Test.YtblplapkdmhikaaGreatDbau
import Derived.Test.YtblplapkdmhikaaGreatDbbd
import Derived.Test.YtblplapkdmhikaaGreatDbbf
import Derived.Test.YtblplapkdmhikaaGreatDbbh
namespace Go.Proofs.YtblplapkdmhikaaGreat
set_option linter.unusedVariables false
set_option linter.unusedSimpArgs false
section
open Go.RowKit
theorem ZjQ (w:World) (x y:Edge):(Op.equal 53 (ZB x) (ZB y)).run Tryz.prog w= .ok (decide (x=y)) w:=by
 obtain⟨a,b,c,d⟩:=x;obtain⟨a',b',c',d'⟩:=y;unfold ZB
 show(Op.equalIn 10000 _ _ _).run _ w=_
 rw[run_equalIn_struct w _ _ _ _ (by kernel_rfl) (by kernel_rfl)];have hI:∀(w:World) (d:Nat) (x y:Int),(Op.equalIn (d+1) 3 (.int .i64 x) (.int .i64 y)).run Tryz.prog w= .ok (x==y) w:=fun w d x y=>run_equalIn_int w d _ _ _ x y Tryz.underlying3
 by_cases h1:a=a'<;>by_cases h2:b=b'<;>by_cases h3:c=c'<;>by_cases h4:d=d'<;>
  simp[Program.fieldsOf,Tryz.underlying53,Op.eqFields,part,hI,h1,h2,h3,h4,Result.andThen]
theorem ZjR (w:World) (e:Bool) (p:Edge):(Instr.checkKey e 10000 53 (ZB p)).run Tryz.prog w= .ok () w:=by
 show(Instr.checkKey e (9998+1+1) _ _).run _ w=_
 generalize 9998=d
 have hI:∀(w:World) (x:Int),(Instr.checkKey e (d+1) 3 (.int .i64 x)).run Tryz.prog w= .ok () w:=fun w x=>by unfold Instr.checkKey;simp[run_underlying Tryz.underlying3]
 unfold Instr.checkKey ZB;simp[run_underlying Tryz.underlying53,←Array.forIn_toList,part,hI,Result.andThen]
theorem ZW:KeyBy Tryz.prog 53 ZB:=KeyBy.agg_ Tryz.underlying53 (fun a=>⟨_,rfl⟩) ZjR (fun a=>by simp[ZB,Instr.sameBits]) ZjQ
end
/- Edges of a history:what is looked up in it once. -/
section
open Go.RowKit
def ZC (txs:List HTx):List Int:=(txs.filter (·.done)).map (·.id)
def ZaL (id:Int) (l:List HOp):List (Int×Int):=(l.filter fun o=> !o.read).map fun o=>(id,o.key)
def Zi (txs:List HTx):List (Int×Int):=(txs.filter (·.done)).flatMap fun t=>ZaL t.id t.ops
def Zao (key a:Int):List Int→List ((Int×Int)×Int)
 |[]=>[]
 |x::l=>((key,a),x)::Zao key x l
def Zu (ords:List HOrd):List ((Int×Int)×Int):=ords.flatMap fun o=>Zao o.key 0 o.txs
def ZQ (L:List ((Int×Int)×Int)) (p:Int×Int):Int:=L.foldl (fun a e=>if e.1=p then e.2 else a) 0
theorem Zjw (L:List ((Int×Int)×Int)) (p q:Int×Int) (x:Int):ZQ (L++[(p,x)]) q=if p=q then x else ZQ L q:=by
 unfold ZQ;rw[List.foldl_append];rfl
theorem ZjV {txs:List HTx} {k:Nat} {x:HTx} (hk:k<txs.length) (hx:txs[k]=x):ZC (txs.take (k+1))=ZC (txs.take k)++if x.done then [x.id] else []:=by
 subst hx;unfold ZC;rw[List.take_succ_eq_append_getElem hk,List.filter_append,List.map_append]
 cases h:txs[k].done<;>simp[h]
theorem Zhp {txs:List HTx} {k:Nat} {x:HTx} (hk:k<txs.length) (hx:txs[k]=x):Zi (txs.take (k+1))=Zi (txs.take k)++if x.done then ZaL x.id x.ops else []:=by
 subst hx;unfold Zi;rw[List.take_succ_eq_append_getElem hk,List.filter_append,List.flatMap_append]
 cases h:txs[k].done<;>simp[h]
theorem Zka {l:List HOp} {k:Nat} {x:HOp} (id:Int) (hk:k<l.length) (hx:l[k]=x):ZaL id (l.take (k+1))=ZaL id (l.take k)++if x.read then [] else [(id,x.key)]:=by
 subst hx;unfold ZaL;rw[List.take_succ_eq_append_getElem hk,List.filter_append,List.map_append]
 cases h:l[k].read<;>simp[h]
theorem Zip {ords:List HOrd} {k:Nat} {x:HOrd} (hk:k<ords.length) (hx:ords[k]=x):Zu (ords.take (k+1))=Zu (ords.take k)++Zao x.key 0 x.txs:=by
 subst hx;unfold Zu;rw[List.take_succ_eq_append_getElem hk,List.flatMap_append];simp
def ZcP (a:Int):List Int→Int
 |[]=>a
 |x::l=>ZcP x l
theorem ZfO:∀(l:List Int) (a:Int) {k:Nat} {x:Int} (hk:k<l.length),l[k]=x→ZcP a (l.take (k+1))=x
 |y::l,a,0,x,_,hx=>by simp at hx;subst hx;simp[ZcP]
 |y::l,a,k+1,x,hk,hx=>by
  rw[List.take_succ_cons];exact ZfO l y (by simpa using hk) (by simpa using hx)
theorem ZeH:∀(l:List Int) (key a:Int) {k:Nat} {x:Int} (hk:k<l.length),l[k]=x→Zao key a (l.take (k+1))=Zao key a (l.take k)++[((key,ZcP a (l.take k)),x)]
 |y::l,key,a,0,x,_,hx=>by simp at hx;subst hx;simp[Zao,ZcP]
 |y::l,key,a,k+1,x,hk,hx=>by
  rw[List.take_succ_cons,List.take_succ_cons]
  show((key,a),y)::Zao key y (l.take (k+1))=((key,a),y)::Zao key y (l.take k)++_
  rw[ZeH l key y (by simpa using hk) (by simpa using hx)];rfl
def DoneM (m:List (Int×Value)) (L:List Int):Prop:=∀i,(Zz m i).getD (.int .i64 0)= .int .i64 (if i∈L then 1 else 0)
def NxtM (m:List ((Int×Int)×Value)) (L:List ((Int×Int)×Int)):Prop:=∀p,(Zz m p).getD (.int .i64 0)= .int .i64 (ZQ L p)
theorem DoneM.put {m:List (Int×Value)} {L:List Int} (h:DoneM m L) (x:Int):DoneM (Zs m x (.int .i64 1)) (L++[x]):=fun i=>by
 rw[Zaz]
 by_cases e:i=x
 ·subst e;simp
 ·rw[if_neg e,h i];simp[e]
theorem NxtM.put {m:List ((Int×Int)×Value)} {L:List ((Int×Int)×Int)} (h:NxtM m L) (p:Int×Int) (x:Int):NxtM (Zs m p (.int .i64 x)) (L++[(p,x)]):=fun q=>by
 rw[Zaz,Zjw]
 by_cases e:q=p
 ·subst e;rw[if_pos rfl,if_pos rfl];rfl
 ·rw[if_neg e,if_neg (fun h=>e h.symm),h q]
def Zn {α:Type} [DecidableEq α] (L:List α) (a:α):Nat:=(L.filter fun x=>decide (x=a)).length
theorem Zhc {α:Type} [DecidableEq α] (L:List α) (a x:α):Zn (L++[a]) x=if x=a then Zn L a+1 else Zn L x:=by
 unfold Zn;rw[List.filter_append,List.length_append]
 by_cases e:x=a
 ·subst e;rw[if_pos rfl,List.filter_cons_of_pos (by simp)];rfl
 ·rw[if_neg e,List.filter_cons_of_neg (by simpa using fun h=>e h.symm)];rfl
theorem Zgu {α:Type} [DecidableEq α] (L:List α) (x:α):Zn L x≤L.length:=List.length_filter_le _ _
theorem Zaf {α:Type} [DecidableEq α] (L M:List α) (x:α):Zn (L++M) x=Zn L x+Zn M x:=by unfold Zn;rw[List.filter_append,List.length_append]
def Zl (bd bl bx:Nat):Nat→Prop:=fun i=>i=bd∨i=bl∨i=bx
structure FindW (w:World) (fb bd bl bx:Nat) (txs:List HTx) (ords:List HOrd) (A:Option Addr) (c:Nat) (B:Option Addr) (d:Nat) (md:List (Int×Value)) (ml mx:List ((Int×Int)×Value)) (LD:List Int) (LW:List (Int×Int)) (LN:List ((Int×Int)×Int)):Prop where
 blk:Blk w fb 296 [.slice A txs.length c,.slice B ords.length d,.map (some bd),.map (some bl),.map (some bx)]
 md_:MapE w bd (fun n:Int=>Value.int .i64 n) md
 ml_:MapE w bl Ze9 ml
 mx_:MapE w bx Ze9 mx
 dm:DoneM md LD
 lm:CntM ml (Zn LW)
 nm:NxtM mx LN
 a1:fb≠bd∧fb≠bl∧fb≠bx
 a2:bd≠bl∧bd≠bx∧bl≠bx
theorem FindW.upd {S:Nat→Prop} {w w':World} {fb bd bl bx:Nat} {txs:List HTx} {ords:List HOrd} {A:Option Addr} {c:Nat} {B:Option Addr} {d:Nat} {md:List (Int×Value)} {ml mx:List ((Int×Int)×Value)} {LD:List Int} {LW:List (Int×Int)} {LN:List ((Int×Int)×Int)}
  (h:FindW w fb bd bl bx txs ords A c B d md ml mx LD LW LN) (k:Upd S w w') (h1:¬S fb) (h2:¬S bd) (h3:¬S bl) (h4:¬S bx):FindW w' fb bd bl bx txs ords A c B d md ml mx LD LW LN:=
 ⟨h.blk.upd k h1,h.md_.upd k h2,h.ml_.upd k h3,h.mx_.upd k h4,h.dm,h.lm,h.nm,h.a1,h.a2⟩
end
/- Edges of a history:dsg.look is walked. -/
section
open Go.RowKit
def Zof (w:World) (txs:List HTx) (ords:List HOrd) (A:Option Addr) (c:Nat) (B:Option Addr) (d:Nat) (e:Ending) (w':World):Prop:=
 ∃fb bd bl bx md ml mx,e= .returned (.pointer (some ⟨fb,0,none⟩))∧FindW w' fb bd bl bx txs ords A c B d md ml mx (ZC txs) (Zi txs) (Zu ords)∧(w.heap.size≤fb∧w.heap.size≤bd∧w.heap.size≤bl∧w.heap.size≤bx)∧Upd No w w'
set_option maxRecDepth 100000 in
set_option maxHeartbeats 8000000 in
theorem ZoN (F:Nat→Prop) (w:World) (txs:List HTx) (ords:List HOrd) (A:Option Addr) (c:Nat) (B:Option Addr) (d:Nat) (H:Hist.lies F w ⟨txs,ords,A,c,B,d⟩) (n1:txs.length≤4096) (n2:∀t∈txs,t.ops.length≤4095):
  Calls Tryz.prog 159 #[.agg #[.slice A txs.length c,.slice B ords.length d]] w (Zof w txs ords A c B d):=by
 have hmm:= @run_makeMap Tryz.prog;have HH:=Qh H;have n3:ords.length≤4398046511103:=H.fewo;obtain⟨z,hz⟩:∃z,w.heap.size=z:=⟨_,rfl⟩;obtain⟨w1,hw1⟩:∃w1,w.alloc (.cells #[.slice A txs.length c,.slice B ords.length d] 29)=w1:=⟨_,rfl⟩;have s1:w1.heap.size=z+1:=by rw[←hw1,←hz];simp
 obtain⟨w2,hw2⟩:∃w2,w1.alloc (.map #[] 0)=w2:=⟨_,rfl⟩;have s2:w2.heap.size=z+1+1:=by rw[←hw2,←s1];simp
 obtain⟨w3,hw3⟩:∃w3,w2.alloc (.map #[] 0)=w3:=⟨_,rfl⟩;have s3:w3.heap.size=z+1+1+1:=by rw[←hw3,←s2];simp
 obtain⟨w4,hw4⟩:∃w4,w3.alloc (.map #[] 0)=w4:=⟨_,rfl⟩;have s4:w4.heap.size=z+1+1+1+1:=by rw[←hw4,←s3];simp
 obtain⟨wb,hwb⟩:∃wb,w4.alloc (.cells #[.slice A txs.length c,.slice B ords.length d,.map (some (z+1)),.map (some (z+1+1)),.map (some (z+1+1+1))] 296)=wb:=⟨_,rfl⟩;have u1:Upd No w w1:=by rw[←hw1];exact(Upd.refl No w).alloc _
 have u2:Upd No w1 w2:=by rw[←hw2];exact(Upd.refl No w1).alloc _
 have u3:Upd No w2 w3:=by rw[←hw3];exact(Upd.refl No w2).alloc _
 have u4:Upd No w3 w4:=by rw[←hw4];exact(Upd.refl No w3).alloc _
 have u5:Upd No w4 wb:=by rw[←hwb];exact(Upd.refl No w4).alloc _
 have m2:MapE w2 (z+1) (fun n:Int=>Value.int .i64 n) []:=by rw[←hw2,←s1];exact MapE.new w1 _
 have m3:MapE w3 (z+1+1) Ze9 []:=by rw[←hw3,←s2];exact MapE.new w2 _
 have m4:MapE w4 (z+1+1+1) Ze9 []:=by rw[←hw4,←s3];exact MapE.new w3 _
 have bF:Blk wb (z+1+1+1+1) 296 [.slice A txs.length c,.slice B ords.length d,.map (some (z+1)),.map (some (z+1+1)),.map (some (z+1+1+1))]:=by rw[←hwb,←s4];exact Blk.new w4 _ _
 have bH1:Blk w1 z 29 [.slice A txs.length c,.slice B ords.length d]:=by rw[←hw1,←hz];exact Blk.new w _ _
 have bH:Blk wb z 29 [.slice A txs.length c,.slice B ords.length d]:=(((bH1.upd u2 id).upd u3 id).upd u4 id).upd u5 id;have g0:=bH1.cell 0;have g1:=bH1.cell 1;simp only[Qz,Qs]at g0 g1
 have HF:Hid (FindW wb (z+1+1+1+1) (z+1) (z+1+1) (z+1+1+1) txs ords A c B d [] [] [] [] [] []):=Qh
  ⟨bF,((m2.upd u3 id).upd u4 id).upd u5 id,(m3.upd u4 id).upd u5 id,m4.upd u5 id,fun i=>by rw[Zbt];simp,CntM.new.congr (fun p=>rfl),fun p=>by rw[Zbt];rfl,⟨by omega,by omega,by omega⟩,⟨by omega,by omega,by omega⟩⟩
 have HU:=Qh ((((u1.trans u2).trans u3).trans u4).trans u5);have HBH:=Qh bH;have HZ:=Qh hz;clear u1 u2 u3 u4 u5 m2 m3 m4 bF bH bH1 H
 go_enter Tryz.func159,Tryz.ntmps159
 have h0:∀W,Upd (Zl (z+1) (z+1+1) (z+1+1+1)) wb W→W.cell? ⟨z,0,none⟩=some (.slice A txs.length c):=fun W u=>by have:=(HBH.out.upd u (by unfold Zl;omega)).cell 0;simpa using this
 have h1:∀W,Upd (Zl (z+1) (z+1+1) (z+1+1+1)) wb W→W.cell? ⟨z,1,none⟩=some (.slice B ords.length d):=fun W u=>by have:=(HBH.out.upd u (by unfold Zl;omega)).cell 1;simpa using this
 have hbz:Upd (Zl (z+1) (z+1+1) (z+1+1+1)) wb wb:=Upd.refl _ _;go_wp2;clear hmm g0 g1 hw1 hw2 hw3 hw4 hwb hz;obtain⟨bd,hbd⟩:∃bd,z+1=bd:=⟨_,rfl⟩;obtain⟨bl,hbl⟩:∃bl,z+1+1=bl:=⟨_,rfl⟩;obtain⟨bx,hbx⟩:∃bx,z+1+1+1=bx:=⟨_,rfl⟩;obtain⟨fb,hfb⟩:∃fb,z+1+1+1+1=fb:=⟨_,rfl⟩;rw[hfb,hbx,hbl,hbd]at HF;rw[hbx,hbl,hbd]at h0 h1 hbz;rw[hfb];have HZ2:=Qh (show w.heap.size≤fb∧w.heap.size≤bd∧w.heap.size≤bl∧w.heap.size≤bx by have:=HZ.out;omega);have HN3:=Qh (show∀i,Zl bd bl bx i→w.heap.size≤i from fun i e=>by have:=HZ2.out;unfold Zl at e;omega);clear hbd hbl hbx hfb s1 s2 s3 s4
 go_loopg [22] txs.length (fun gk i wr=>∃(k:Nat) (md:List (Int×Value)) (ml:List ((Int×Int)×Value)),k+gk=txs.length∧i= .int .i64 k∧Hid (FindW wr fb bd bl bx txs ords A c B d md ml [] (ZC (txs.take k)) (Zi (txs.take k)) [])∧Hid ((Zi (txs.take k)).length≤4095*k)∧Upd (Zl bd bl bx) wb wr)
 case atStart=>exact⟨0,[],[],by omega,rfl,HF,Qh (by simp[Zi]),hbz⟩
 case round=>
  clear HF;obtain⟨k,md,ml,hgk,rfl,hf,hlw,hu⟩:=hrel;have hun:=HU.out.then_ hu (fun i e=>Or.inr (HN3.out i e))
  by_cases hlt:k<txs.length
  ·have H1:=HH.out.upd hun (fun _ _=>id);obtain⟨ad,hAd,q0,q1,q2⟩:=H1.tx_at hlt;simp only at hAd q0 q1 q2;have hx2:=n2 _ (List.getElem_mem hlt);have hx0:=HH.out.tx txs[k] (List.getElem_mem hlt);obtain⟨⟨xi,xd,xo,xA,xc⟩,hx⟩:∃x,txs[k]=x:=⟨_,rfl⟩;rw[hx]at q0 q1 q2 hx2 hx0;simp only at q0 q1 q2 hx2;subst hAd;have HX0:=Qh (show HOps F w xA xo from hx0.1);have b1:(0:Int)≤(k:Int):=Qn _;have b2:(k:Int)<(txs.length:Int):=by omega
   obtain⟨wx,hwx⟩:∃wx,wr.alloc (.cells #[.int .i64 xi,.bool xd,.slice xA xo.length xc] 81)=wx:=⟨_,rfl⟩;have ux:Upd No wr wx:=by rw[←hwx];exact(Upd.refl No wr).alloc _
   have bo:Blk wx wr.heap.size 81 [.int .i64 xi,.bool xd,.slice xA xo.length xc]:=by rw[←hwx];exact Blk.new wr _ _
   have HZX:=Qh (show fb<wr.heap.size∧bd<wr.heap.size∧bl<wr.heap.size∧bx<wr.heap.size by exact⟨hf.out.blk.lt,hf.out.md_.lt,hf.out.ml_.lt,hf.out.mx_.lt⟩);have FX:=Qh (hf.out.upd ux id id id id);have HUX:=Qh (hu.trans (ux.mono (fun _ _ e=>e.elim)));have HUN:=Qh (hun.trans ux);have t0:∀W,Upd (Zl bd bl bx) wx W→W.cell? ⟨wr.heap.size,0,none⟩=some (.int .i64 xi):=fun W u=>by have:=(bo.upd u (by have:=HZX.out;unfold Zl;omega)).cell 0;simpa using this
   have t1:∀W,Upd (Zl bd bl bx) wx W→W.cell? ⟨wr.heap.size,1,none⟩=some (.bool xd):=fun W u=>by have:=(bo.upd u (by have:=HZX.out;unfold Zl;omega)).cell 1;simpa using this
   have t2:∀W,Upd (Zl bd bl bx) wx W→W.cell? ⟨wr.heap.size,2,none⟩=some (.slice xA xo.length xc):=fun W u=>by have:=(bo.upd u (by have:=HZX.out;unfold Zl;omega)).cell 2;simpa using this
   have f2:∀W,Upd (Zl bd bl bx) wx W→W.cell? ⟨fb,2,none⟩=some (.map (some bd)):=fun W u=>by have:=(FX.out.blk.upd u (by have:=FX.out.a1;unfold Zl;omega)).cell 2;simpa using this
   have hxz:Upd (Zl bd bl bx) wx wx:=Upd.refl _ _;have HX:=Qh hx;have HD:=Qh (ZjV hlt hx);have HW:=Qh (Zhp hlt hx);simp only at HD HW;clear hx bo H1 ux hun hx0
   cases xd
   ·have HN:=Qh (show FindW wx fb bd bl bx txs ords (some ad) c B d md ml [] (ZC (txs.take (k+1))) (Zi (txs.take (k+1))) [] by rw[HD.out,HW.out];simpa using FX.out);have HNL:=Qh (show(Zi (txs.take (k+1))).length≤4095*(k+1) by rw[HW.out];have:=hlw.out;simp;omega);go_wp2
    go_roundg (gk-1)
    case measure=>omega
    case rel=>exact⟨k+1,md,ml,by omega,by go_num,HN,HNL,HUX.out⟩
   ·have hmd:MapE wx.drew bd (fun n:Int=>Value.int .i64 n) md:=FX.out.md_;obtain⟨w5,hp5,hm5,hu5⟩:=Zdi ZcA Tryz.underlying294 hmd xi (.int .i64 1);have hU5:Upd (Zl bd bl bx) wx w5:=(hu5.of_drew).mono (fun i _ e=>Or.inl e)
    have F5:Hid (FindW w5 fb bd bl bx txs ords (some ad) c B d (Zs md xi (.int .i64 1)) ml [] (ZC (txs.take (k+1))) (Zi (txs.take k)) []):=Qh (by
     have h:=FX.out;have h5:=hu5.of_drew;exact⟨h.blk.upd h5 (by have:=h.a1;unfold One;omega),hm5,h.ml_.upd h5 (by have:=h.a2;unfold One;omega),h.mx_.upd h5 (by have:=h.a2;unfold One;omega),by rw[HD.out];exact h.dm.put xi,h.lm,h.nm,h.a1,h.a2⟩)
    clear hmd hm5 hu5;go_wp2
    go_region_held3 (fun W'=>Upd (Zl bd bl bx) wx W') (first|exact hxz.drew|exact hU5) (fail)
    clear hp5;obtain⟨wo,hwo⟩:∃wo,wo=wr:=⟨_,rfl⟩;subst hwo
    generalize gk=GK at*
    go_wp2
    go_loopg [38] xo.length (fun gj i wr=>∃(j:Nat) (m2:List ((Int×Int)×Value)),j+gj=xo.length∧i= .int .i64 j∧Hid (FindW wr fb bd bl bx txs ords (some ad) c B d (Zs md xi (.int .i64 1)) m2 [] (ZC (txs.take (k+1))) (Zi (txs.take k)++ZaL xi (xo.take j)) [])∧Hid ((Zi (txs.take k)++ZaL xi (xo.take j)).length≤4095*k+j)∧Upd (Zl bd bl bx) wx wr)
    case atStart=>exact⟨0,ml,by omega,rfl,Qh (by have:=F5.out;simpa[ZaL]using this),Qh (by have:=hlw.out;simpa[ZaL]using this),hU5⟩
    case round=>
     clear F5 hU5;obtain⟨j,m2,hgj,rfl,hf2,hl2,hu2⟩:=hrel;have hun2:=HUN.out.then_ hu2 (fun i e=>Or.inr (HN3.out i e))
     by_cases hltj:j<xo.length
     ·obtain⟨ad2,hAd2,p0,p1,p2,p3⟩:=(HX0.out.upd hun2 (fun _ _=>id)).at_ hltj;obtain⟨⟨yr,yk,yt,yn⟩,hy⟩:∃y,xo[j]=y:=⟨_,rfl⟩;rw[hy]at p0 p1 p2 p3;simp only at p0 p1 p2 p3;subst hAd2;have c1:(0:Int)≤(j:Int):=Qn _;have c2:(j:Int)<(xo.length:Int):=by omega
      obtain⟨wy,hwy⟩:∃wy,wr.alloc (.cells #[.bool yr,.int .i64 yk,.int .i64 yt,.int .i64 yn] 95)=wy:=⟨_,rfl⟩;have uy:Upd No wr wy:=by rw[←hwy];exact(Upd.refl No wr).alloc _
      have bo:Blk wy wr.heap.size 95 [.bool yr,.int .i64 yk,.int .i64 yt,.int .i64 yn]:=by rw[←hwy];exact Blk.new wr _ _
      have HZY:=Qh (show fb<wr.heap.size∧bd<wr.heap.size∧bl<wr.heap.size∧bx<wr.heap.size by exact⟨hf2.out.blk.lt,hf2.out.md_.lt,hf2.out.ml_.lt,hf2.out.mx_.lt⟩);have FY:=Qh (hf2.out.upd uy id id id id);have HUY:=Qh (hu2.trans (uy.mono (fun _ _ e=>e.elim)));have o0:∀W,Upd (Zl bd bl bx) wy W→W.cell? ⟨wr.heap.size,0,none⟩=some (.bool yr):=fun W u=>by have:=(bo.upd u (by have:=HZY.out;unfold Zl;omega)).cell 0;simpa using this
      have o1:∀W,Upd (Zl bd bl bx) wy W→W.cell? ⟨wr.heap.size,1,none⟩=some (.int .i64 yk):=fun W u=>by have:=(bo.upd u (by have:=HZY.out;unfold Zl;omega)).cell 1;simpa using this
      have t0y:∀W,Upd (Zl bd bl bx) wy W→W.cell? ⟨wo.heap.size,0,none⟩=some (.int .i64 xi):=fun W u=>t0 W (HUY.out.trans u)
      have f3:∀W,Upd (Zl bd bl bx) wy W→W.cell? ⟨fb,3,none⟩=some (.map (some bl)):=fun W u=>by have:=(FY.out.blk.upd u (by have:=FY.out.a1;unfold Zl;omega)).cell 3;simpa using this
      have hyz:Upd (Zl bd bl bx) wy wy:=Upd.refl _ _;have HWO:=Qh (Zka xi hltj hy);simp only at HWO;clear hy bo uy hun2
      cases yr
      ·have hmd:MapE wy.drew bl Ze9 m2:=FY.out.ml_;obtain⟨N,hN⟩:∃N,Zn (Zi (txs.take k)++ZaL xi (xo.take j)) (xi,yk)=N:=⟨_,rfl⟩;have hval:(Zz m2 (xi,yk)).getD (.int .i64 0)= .int .i64 (N:Int):=by rw[FY.out.lm.val,hN]
       have hNl:N≤20000000:=by have:=hl2.out;have h1:=Zgu (Zi (txs.take k)++ZaL xi (xo.take j)) (xi,yk);rw[hN]at h1;omega
       obtain⟨st,w6,e2,hm6,hu6,hst⟩:=ZaX Zcq Tryz.underlying164 ZE hmd (xi,yk);have e1:=Zm Zcq Tryz.underlying164 ZE hmd.is (xi,yk);have e3:=Zm Zcq Tryz.underlying164 ZE hm6.is (xi,yk);rw[ZI,Option.getD_some]at e3;rw[hval]at e1 e2 e3;obtain⟨w7,e4,hm7,hu7⟩:=hst (.int .i64 ((N:Int)+1));change (Instr.lookup 164 (.map (some bl)) (.agg #[.int .i64 xi,.int .i64 yk]) false).run Tryz.prog wy.drew= .ok (.int .i64 N) wy.drew at e1;change (Instr.lookup 164 (.map (some bl)) (.agg #[.int .i64 xi,.int .i64 yk]) false).run Tryz.prog w6= .ok (.int .i64 N) w6 at e3;change (Instr.mapEntry 164 (.map (some bl)) (.agg #[.int .i64 xi,.int .i64 yk])).run Tryz.prog wy.drew= .ok (.tuple #[.int .i64 N,.int .i64 st]) w6 at e2;change (Instr.entryStore 164 (.map (some bl)) (.int .i64 st) (.int .i64 ((N:Int)+1))).run Tryz.prog w6= .ok () w7 at e4;have hU6:Upd (Zl bd bl bx) wy w6:=(hu6.of_drew).mono (fun i _ e=>Or.inr (Or.inl e));have hU7:Upd (Zl bd bl bx) wy w7:=(hu7.of_drew).mono (fun i _ e=>Or.inr (Or.inl e))
       have F7:Hid (FindW w7 fb bd bl bx txs ords (some ad) c B d (Zs md xi (.int .i64 1)) (Zs m2 (xi,yk) (.int .i64 ((N:Int)+1))) [] (ZC (txs.take (k+1))) (Zi (txs.take k)++ZaL xi (xo.take (j+1))) []):=Qh (by
        have h:=FY.out;have h5:=hu7.of_drew;refine⟨h.blk.upd h5 (by have:=h.a1;unfold One;omega),h.md_.upd h5 (by have:=h.a2;unfold One;omega),hm7,h.mx_.upd h5 (by have:=h.a2;unfold One;omega),h.dm,?_,h.nm,h.a1,h.a2⟩;have h8:=h.lm.put (xi,yk) (N+1) (by omega);rw[HWO.out];refine CntM.congr (show CntM _ _ from h8) (fun p=> ?_);simp only[Bool.false_eq_true,if_false];rw[←List.append_assoc,Zhc,hN])
       have HL7:=Qh (show(Zi (txs.take k)++ZaL xi (xo.take (j+1))).length≤4095*k+(j+1) by rw[HWO.out];have:=hl2.out;simp at this ⊢;omega);clear hmd hN hval hst hm6 hm7 hu6 hu7;have hwr:IntKind.i64.wrap ((N:Int)+1)=(N:Int)+1:=IntWalk.i64_in _ (by omega);go_wp2
       go_region_held3 (fun W'=>Upd (Zl bd bl bx) wy W') (first|exact hyz.drew|exact hU6|exact hU7) (fail)
       all_goals
        clear e1 e2 e3 e4 hwr;go_wp2
        go_roundg (gk-1)
        case measure=>omega
        case rel=>exact⟨j+1,_,by omega,by go_num,F7,HL7,HUY.out.trans hU7⟩
      ·have F7:=Qh (show FindW wy fb bd bl bx txs ords (some ad) c B d (Zs md xi (.int .i64 1)) m2 [] (ZC (txs.take (k+1))) (Zi (txs.take k)++ZaL xi (xo.take (j+1))) [] by rw[HWO.out];simpa using FY.out);have HL7:=Qh (show(Zi (txs.take k)++ZaL xi (xo.take (j+1))).length≤4095*k+(j+1) by rw[HWO.out];have:=hl2.out;simp at this ⊢;omega);go_wp2
       go_roundg (gk-1)
       case measure=>omega
       case rel=>exact⟨j+1,m2,by omega,by go_num,F7,HL7,HUY.out⟩
     ·obtain rfl:j=xo.length:=by omega
      have F7:=Qh (show FindW wr fb bd bl bx txs ords (some ad) c B d (Zs md xi (.int .i64 1)) m2 [] (ZC (txs.take (k+1))) (Zi (txs.take (k+1))) [] by rw[HW.out];have:=hf2.out;rw[List.take_length]at this;simpa using this);have HL7:=Qh (show(Zi (txs.take (k+1))).length≤4095*(k+1) by rw[HW.out];have:=hl2.out;rw[List.take_length]at this;simp at this ⊢;omega);go_wp2
      go_roundg (GK-1)
      case measure=>omega
      case rel=>exact⟨k+1,_,m2,by omega,by go_num,F7,HL7,HUX.out.trans hu2⟩
  ·obtain rfl:k=txs.length:=by omega
   have HFT:Hid (FindW wr fb bd bl bx txs ords A c B d md ml [] (ZC txs) (Zi txs) []):=Qh (by have:=hf.out;rwa [List.take_length]at this);have HUO:=Qh hun;have h1o:∀W,Upd (Zl bd bl bx) wr W→W.cell? ⟨z,1,none⟩=some (.slice B ords.length d):=fun W u=>h1 W (hu.trans u)
   have hoz:Upd (Zl bd bl bx) wr wr:=Upd.refl _ _;obtain⟨wo,hwo⟩:∃wo,wo=wr:=⟨_,rfl⟩;subst hwo;clear hf hlw hun h0 h1 hbz;go_wp2
   go_loopg [63] ords.length (fun gk i wr=>∃(k:Nat) (mx:List ((Int×Int)×Value)),k+gk=ords.length∧i= .int .i64 k∧Hid (FindW wr fb bd bl bx txs ords A c B d md ml mx (ZC txs) (Zi txs) (Zu (ords.take k)))∧Upd (Zl bd bl bx) wo wr)
   case atStart=>exact⟨0,[],by omega,rfl,HFT,hoz⟩
   case round=>
    clear HFT hu;obtain⟨k,mx,hgk,rfl,hf,hu⟩:=hrel;have hun:=HUO.out.then_ hu (fun i e=>Or.inr (HN3.out i e))
    by_cases hlt:k<ords.length
    ·obtain⟨ad,hAd,q0,q1⟩:=(HH.out.upd hun (fun _ _=>id)).ord_at hlt;simp only at hAd q0 q1;have hx0:=HH.out.ord ords[k] (List.getElem_mem hlt);obtain⟨⟨yk,yt,yA,yc⟩,hx⟩:∃x,ords[k]=x:=⟨_,rfl⟩;rw[hx]at q0 q1 hx0;simp only at q0 q1;subst hAd;have HX0:=Qh (show Ints F w yA yt from hx0.1);have hyl:yt.length≤17592186044415:=hx0.2.2.1;have b1:(0:Int)≤(k:Int):=Qn _;have b2:(k:Int)<(ords.length:Int):=by omega
     obtain⟨wx,hwx⟩:∃wx,wr.alloc (.cells #[.int .i64 yk,.slice yA yt.length yc] 100)=wx:=⟨_,rfl⟩;have ux:Upd No wr wx:=by rw[←hwx];exact(Upd.refl No wr).alloc _
     have bo:Blk wx wr.heap.size 100 [.int .i64 yk,.slice yA yt.length yc]:=by rw[←hwx];exact Blk.new wr _ _
     have HZX:=Qh (show fb<wr.heap.size∧bd<wr.heap.size∧bl<wr.heap.size∧bx<wr.heap.size by exact⟨hf.out.blk.lt,hf.out.md_.lt,hf.out.ml_.lt,hf.out.mx_.lt⟩);have FX:=Qh (hf.out.upd ux id id id id);have HUX:=Qh (hu.trans (ux.mono (fun _ _ e=>e.elim)));have HUN:=Qh (hun.trans ux);have t0:∀W,Upd (Zl bd bl bx) wx W→W.cell? ⟨wr.heap.size,0,none⟩=some (.int .i64 yk):=fun W u=>by have:=(bo.upd u (by have:=HZX.out;unfold Zl;omega)).cell 0;simpa using this
     have t1:∀W,Upd (Zl bd bl bx) wx W→W.cell? ⟨wr.heap.size,1,none⟩=some (.slice yA yt.length yc):=fun W u=>by have:=(bo.upd u (by have:=HZX.out;unfold Zl;omega)).cell 1;simpa using this
     have f4:∀W,Upd (Zl bd bl bx) wx W→W.cell? ⟨fb,4,none⟩=some (.map (some bx)):=fun W u=>by have:=(FX.out.blk.upd u (by have:=FX.out.a1;unfold Zl;omega)).cell 4;simpa using this
     have hxz:Upd (Zl bd bl bx) wx wx:=Upd.refl _ _;have HX:=Qh (Zip hlt hx);simp only at HX;clear hx bo ux hun hx0;obtain⟨wp,hwp⟩:∃wp,wp=wr:=⟨_,rfl⟩;subst hwp
     generalize gk=GK at*
     go_wp2
     go_loopg [10,70] yt.length (fun gj a i wr=>∃(j:Nat) (m2:List ((Int×Int)×Value)),j+gj=yt.length∧a= .int .i64 (ZcP 0 (yt.take j))∧i= .int .i64 j∧Hid (FindW wr fb bd bl bx txs ords A c (some ad) d md ml m2 (ZC txs) (Zi txs) (Zu (ords.take k)++Zao yk 0 (yt.take j)))∧Upd (Zl bd bl bx) wx wr)
     case atStart=>exact⟨0,mx,by omega,rfl,rfl,Qh (by have:=FX.out;simpa[Zao]using this),hxz⟩
     case round=>
      obtain⟨j,m2,hgj,rfl,rfl,hf2,hu2⟩:=hrel;have hun2:=HUN.out.then_ hu2 (fun i e=>Or.inr (HN3.out i e))
      by_cases hltj:j<yt.length
      ·obtain⟨ad2,hAd2,_,_,p0⟩:=(HX0.out.upd hun2 (fun _ _=>id)).at_ hltj;obtain⟨v,hv⟩:∃v,yt[j]=v:=⟨_,rfl⟩;rw[hv]at p0;subst hAd2;have c1:(0:Int)≤(j:Int):=Qn _;have c2:(j:Int)<(yt.length:Int):=by omega
       have t0y:∀W,Upd (Zl bd bl bx) wr W→W.cell? ⟨wp.heap.size,0,none⟩=some (.int .i64 yk):=fun W u=>t0 W (hu2.trans u)
       have f4y:∀W,Upd (Zl bd bl bx) wr W→W.cell? ⟨fb,4,none⟩=some (.map (some bx)):=fun W u=>f4 W (hu2.trans u)
       have hyz:Upd (Zl bd bl bx) wr wr:=Upd.refl _ _;obtain⟨aj,haj⟩:∃aj,ZcP 0 (yt.take j)=aj:=⟨_,rfl⟩;have HPS:=Qh (show Zao yk 0 (yt.take (j+1))=Zao yk 0 (yt.take j)++[((yk,aj),v)] by rw[ZeH yt yk 0 hltj hv,haj]);have HLS:=Qh (show ZcP 0 (yt.take (j+1))=v from ZfO yt 0 hltj hv);rw[haj];have hmd:MapE wr.drew bx Ze9 m2:=hf2.out.mx_;obtain⟨w5,hp5,hm5,hu5⟩:=Zdi Zcq Tryz.underlying164 hmd (yk,aj) (.int .i64 v);change (Instr.mapUpdate 164 (.map (some bx)) (.agg #[.int .i64 yk,.int .i64 aj]) (.int .i64 v)).run Tryz.prog wr.drew= .ok () w5 at hp5;have hU5:Upd (Zl bd bl bx) wr w5:=(hu5.of_drew).mono (fun i _ e=>Or.inr (Or.inr e))
       have F5:Hid (FindW w5 fb bd bl bx txs ords A c (some ad) d md ml (Zs m2 (yk,aj) (.int .i64 v)) (ZC txs) (Zi txs) (Zu (ords.take k)++Zao yk 0 (yt.take (j+1)))):=Qh (by
        have h:=hf2.out;have h5:=hu5.of_drew;exact⟨h.blk.upd h5 (by have:=h.a1;unfold One;omega),h.md_.upd h5 (by have:=h.a2;unfold One;omega),h.ml_.upd h5 (by have:=h.a2;unfold One;omega),hm5,h.dm,h.lm,by rw[HPS.out,←List.append_assoc];exact h.nm.put _ _,h.a1,h.a2⟩)
       clear hmd hm5 hu5 haj hv hun2;go_wp2
       go_region_held3 (fun W'=>Upd (Zl bd bl bx) wr W') (first|exact hyz.drew|exact hU5) (fail)
       clear hp5;go_wp2
       go_roundg (gk-1)
       case measure=>omega
       case rel=>exact⟨j+1,_,by omega,by rw[HLS.out],by go_num,F5,hu2.trans hU5⟩
      ·obtain rfl:j=yt.length:=by omega
       have F5:Hid (FindW wr fb bd bl bx txs ords A c (some ad) d md ml m2 (ZC txs) (Zi txs) (Zu (ords.take (k+1)))):=Qh (by have:=hf2.out;rw[List.take_length]at this;rw[HX.out];exact this);go_wp2
       go_roundg (GK-1)
       case measure=>omega
       case rel=>exact⟨k+1,m2,by omega,by go_num,F5,HUX.out.trans hu2⟩
    ·obtain rfl:k=ords.length:=by omega
     go_wp2
     go_ret
     exact⟨fb,bd,bl,bx,md,ml,mx,rfl,by have:=hf.out;rwa [List.take_length]at this,HZ2.out,hun⟩
end
/- Edges of a history:what a read is a reason for. -/
section
open Go.RowKit
def ZH (LD:List Int) (LW:List (Int×Int)) (LN:List ((Int×Int)×Int)) (ti:Int) (o:HOp):List Edge:=
 if o.tx=ti then [] else if o.tx≠0∧o.tx∉LD then [] else if o.tx≠0∧(Zn LW (o.tx,o.key):Int)≠o.nth then []
 else (if o.tx≠0 then [⟨o.tx,ti,2,o.key⟩] else [])++if ZQ LN (o.key,o.tx)≠0∧ZQ LN (o.key,o.tx)≠ti then [⟨ti,ZQ LN (o.key,o.tx),3,o.key⟩] else []
theorem Zbc {α:Type} [DecidableEq α] (x:α):Zn ([]:List α) x=0:=rfl
theorem ZcF {α:Type} [DecidableEq α] (a x:α):Zn [a] x=if x=a then 1 else 0:=by
 have:=Zhc ([]:List α) a x
 simpa[Zbc]using this
theorem CntM.inc {m:List (Edge×Value)} {g:Edge→Nat} (h:CntM m g) (a:Edge):CntM (Zs m a (.int .i64 ((g a:Int)+1))) (fun x=>g x+Zn [a] x):=by
 refine(h.put a (g a+1) (by omega)).congr fun x=> ?_
 rw[ZcF]
 by_cases e:x=a
 ·subst e;simp
 ·simp[e]
def Zpj (w:World) (bc:Nat) (g:Edge→Nat) (l:List Edge) (e:Ending) (w':World):Prop:=
 e= .returned (.tuple #[])∧∃mc,MapE w' bc ZB mc∧CntM mc (fun x=>g x+Zn l x)∧Upd (One bc) w w'
set_option maxRecDepth 100000 in
set_option maxHeartbeats 8000000 in
theorem ZoM (w:World) (fb bd bl bx bc:Nat) (txs:List HTx) (ords:List HOrd) (A:Option Addr) (c:Nat) (B:Option Addr) (d:Nat) (md:List (Int×Value)) (ml mx:List ((Int×Int)×Value)) (LD:List Int) (LW:List (Int×Int)) (LN:List ((Int×Int)×Int))
  (ti:Int) (tv:Bool) (tA:Option Addr) (tl tc:Nat) (yr:Bool) (yk yt yn:Int) (mc:List (Edge×Value)) (g:Edge→Nat)
  (h:FindW w fb bd bl bx txs ords A c B d md ml mx LD LW LN) (hm:MapE w bc ZB mc) (hg:CntM mc g) (hb:∀e,g e≤1000000000) (hd:bc≠fb∧bc≠bd∧bc≠bl∧bc≠bx):
  Calls Tryz.prog 160 #[.pointer (some ⟨fb,0,none⟩),.agg #[.int .i64 ti,.bool tv,.slice tA tl tc],.agg #[.bool yr,.int .i64 yk,.int .i64 yt,.int .i64 yn],.map (some bc)] w (Zpj w bc g (ZH LD LW LN ti ⟨yr,yk,yt,yn⟩)):=by
 obtain⟨wb,hwb⟩:∃wb,(w.alloc (.cells #[.int .i64 ti,.bool tv,.slice tA tl tc] 81)).alloc (.cells #[.bool yr,.int .i64 yk,.int .i64 yt,.int .i64 yn] 95)=wb:=⟨_,rfl⟩;have u0:Upd No w wb:=by rw[←hwb];exact((Upd.refl No w).alloc _).alloc _
 have bT:Blk wb w.heap.size 81 [.int .i64 ti,.bool tv,.slice tA tl tc]:=by rw[←hwb];exact(Blk.new w _ _).alloc _
 have bO:Blk wb (w.heap.size+1) 95 [.bool yr,.int .i64 yk,.int .i64 yt,.int .i64 yn]:=by
  rw[←hwb];have:=Blk.new (w.alloc (.cells #[.int .i64 ti,.bool tv,.slice tA tl tc] 81)) 95 [.bool yr,.int .i64 yk,.int .i64 yt,.int .i64 yn]
  simpa using this
 have hbl:=hm.lt;have FB:=Qh (h.upd u0 id id id id);have MB:=Qh (hm.upd u0 id);have HG:=Qh hg;have BND:=Qh hb;have UB:=Qh (u0.mono (T:=One bc) (fun _ _ e=>e.elim));have t0:∀W,Upd (One bc) wb W→W.cell? ⟨w.heap.size,0,none⟩=some (.int .i64 ti):=fun W u=>by have:=(bT.upd u (by unfold One;omega)).cell 0;simpa using this
 have o1:∀W,Upd (One bc) wb W→W.cell? ⟨w.heap.size+1,1,none⟩=some (.int .i64 yk):=fun W u=>by have:=(bO.upd u (by unfold One;omega)).cell 1;simpa using this
 have o2:∀W,Upd (One bc) wb W→W.cell? ⟨w.heap.size+1,2,none⟩=some (.int .i64 yt):=fun W u=>by have:=(bO.upd u (by unfold One;omega)).cell 2;simpa using this
 have o3:∀W,Upd (One bc) wb W→W.cell? ⟨w.heap.size+1,3,none⟩=some (.int .i64 yn):=fun W u=>by have:=(bO.upd u (by unfold One;omega)).cell 3;simpa using this
 have f2:∀W,Upd (One bc) wb W→W.cell? ⟨fb,2,none⟩=some (.map (some bd)):=fun W u=>by have:=(FB.out.blk.upd u (by unfold One;omega)).cell 2;simpa using this
 have f3:∀W,Upd (One bc) wb W→W.cell? ⟨fb,3,none⟩=some (.map (some bl)):=fun W u=>by have:=(FB.out.blk.upd u (by unfold One;omega)).cell 3;simpa using this
 have f4:∀W,Upd (One bc) wb W→W.cell? ⟨fb,4,none⟩=some (.map (some bx)):=fun W u=>by have:=(FB.out.blk.upd u (by unfold One;omega)).cell 4;simpa using this
 have L1:∀W,Upd (One bc) wb W→(Instr.lookup 294 (.map (some bd)) (.int .i64 yt) false).run Tryz.prog W= .ok (.int .i64 (if yt∈LD then 1 else 0)) W:=fun W u=>by
  have:=Zm ZcA Tryz.underlying294 ZE (FB.out.md_.upd u (by unfold One;omega)).is yt
  rwa [FB.out.dm yt]at this
 have L2:∀W,Upd (One bc) wb W→(Instr.lookup 164 (.map (some bl)) (.agg #[.int .i64 yt,.int .i64 yk]) false).run Tryz.prog W= .ok (.int .i64 (Zn LW (yt,yk):Int)) W:=fun W u=>by
  have:=Zm Zcq Tryz.underlying164 ZE (FB.out.ml_.upd u (by unfold One;omega)).is (yt,yk)
  rwa [FB.out.lm.val]at this
 have L3:∀W,Upd (One bc) wb W→(Instr.lookup 164 (.map (some bx)) (.agg #[.int .i64 yk,.int .i64 yt]) false).run Tryz.prog W= .ok (.int .i64 (ZQ LN (yk,yt))) W:=fun W u=>by
  have:=Zm Zcq Tryz.underlying164 ZE (FB.out.mx_.upd u (by unfold One;omega)).is (yk,yt)
  rwa [FB.out.nm (yk,yt)]at this
 have hr:Upd (One bc) wb wb:=Upd.refl _ _;have hrq:=fun n=>hr.drewN n
 have H1:=Qh (hg.congr (f:=fun x=>g x+Zn [] x) (fun x=>by rw[Zbc];rfl));clear h hm hg hb hbl hd u0 bT bO
 by_cases c1:yt=ti
 ·have HV:=Qh (show ZH LD LW LN ti ⟨yr,yk,yt,yn⟩=[] by unfold ZH;rw[if_pos c1]);have c2:(yt==ti)=true:=by simpa using c1
  have HC:=Qh c1;clear c1
  go_enter Tryz.func160,Tryz.ntmps160
  go_wp2
  go_quiet (fail)
  go_wp2
  go_end0
  exact⟨rfl,mc,MB.out,by rw[HV.out];exact H1.out,UB.out.trans (hr.drewN _)⟩
 ·have c2:(yt==ti)=false:=by simpa using c1
  by_cases c3:yt=0
  ·have c4:(yt != 0)=false:=by simpa using c3
   have HR:Hid (ZH LD LW LN ti ⟨yr,yk,yt,yn⟩=[]++if ZQ LN (yk,yt)≠0∧ZQ LN (yk,yt)≠ti then [⟨ti,ZQ LN (yk,yt),3,yk⟩] else []):=Qh (by
    unfold ZH;rw[if_neg c1,if_neg (fun h=>h.1 c3),if_neg (fun h=>h.1 c3),if_neg (fun h=>h c3)])
   clear c1 c3
   go_enter Tryz.func160,Tryz.ntmps160
   go_wp2
   go_quiet (fail)
   have hqu:=hrq nq;have hmu:MapE (wb.drewN nq) bc ZB mc:=MB.out
   generalize wb.drewN nq=wu at*
   have HE:=Qh (show∀z,g z=g z+Zn ([]:List Edge) z from fun z=>by rw[Zbc];rfl);obtain⟨x,hx⟩:∃x,ZQ LN (yk,yt)=x:=⟨_,rfl⟩;rw[hx]at L3 HR;clear hx;have hq:=fun n=>Upd.drewN hqu n
   by_cases hx0:x=0
   ·have HV:=Qh (show ZH LD LW LN ti ⟨yr,yk,yt,yn⟩=[] by rw[HR.out,if_neg (fun h=>h.1 hx0),List.append_nil]);subst hx0;go_wp2
    go_quiet (fail)
    go_wp2
    go_end0
    exact⟨rfl,_,hmu,by rw[HV.out];exact(HG.out).congr HE.out,UB.out.trans (Upd.drewN hqu _)⟩
   ·have hx1:(x != 0)=true:=by simpa using hx0
    by_cases hxt:x=ti
    ·have hx2:(x != ti)=false:=by simpa using hxt
     have HV:=Qh (show ZH LD LW LN ti ⟨yr,yk,yt,yn⟩=[] by rw[HR.out,if_neg (fun h=>h.2 hxt),List.append_nil]);clear hxt hx0;go_wp2
     go_quiet (fail)
     go_wp2
     go_end0
     exact⟨rfl,_,hmu,by rw[HV.out];exact(HG.out).congr HE.out,UB.out.trans (Upd.drewN hqu _)⟩
    ·have hx2:(x != ti)=true:=by simpa using hxt
     have HV:=Qh (show ZH LD LW LN ti ⟨yr,yk,yt,yn⟩=[]++[⟨ti,x,3,yk⟩] by rw[HR.out,if_pos ⟨hx0,hxt⟩]);clear hxt hx0;go_wp2
     go_quiet (fail)
     have hqq:=hq nq;have hmq:MapE ((wu).drewN nq) bc ZB mc:=hmu
     generalize (wu).drewN nq=wq at*
     go_wp2;have hmd:MapE wq.drew bc ZB mc:=hmq;obtain⟨N,hN⟩:∃N,g ⟨ti,x,3,yk⟩=N:=⟨_,rfl⟩;have hval:(Zz mc (⟨ti,x,3,yk⟩:Edge)).getD (.int .i64 0)= .int .i64 (N:Int):=by rw[(HG.out).val,hN]
     have hNl:N≤2000000000:=by have:=(BND.out ⟨ti,x,3,yk⟩);omega
     obtain⟨st,w6,e2,hm6,hu6,hst⟩:=ZaX ZW Tryz.underlying109 ZE hmd (⟨ti,x,3,yk⟩:Edge);have e1:=Zm ZW Tryz.underlying109 ZE hmd.is (⟨ti,x,3,yk⟩:Edge);have e3:=Zm ZW Tryz.underlying109 ZE hm6.is (⟨ti,x,3,yk⟩:Edge);rw[ZI,Option.getD_some]at e3;rw[hval]at e1 e2 e3;obtain⟨w7,e4,hm7,hu7⟩:=hst (.int .i64 ((N:Int)+1));change (Instr.lookup 109 (.map (some bc)) (.agg #[.int .i64 ti,.int .i64 x,.int .i64 3,.int .i64 yk]) false).run Tryz.prog wq.drew= .ok (.int .i64 N) wq.drew at e1;change (Instr.lookup 109 (.map (some bc)) (.agg #[.int .i64 ti,.int .i64 x,.int .i64 3,.int .i64 yk]) false).run Tryz.prog w6= .ok (.int .i64 N) w6 at e3;change (Instr.mapEntry 109 (.map (some bc)) (.agg #[.int .i64 ti,.int .i64 x,.int .i64 3,.int .i64 yk])).run Tryz.prog wq.drew= .ok (.tuple #[.int .i64 N,.int .i64 st]) w6 at e2;change (Instr.entryStore 109 (.map (some bc)) (.int .i64 st) (.int .i64 ((N:Int)+1))).run Tryz.prog w6= .ok () w7 at e4;have hxz:Upd (One bc) wb wq:=hqq;have hU6:Upd (One bc) wb w6:=hxz.trans hu6.of_drew;have hU7:Upd (One bc) wb w7:=hxz.trans hu7.of_drew;have HM7:=Qh hm7;have HG7:=Qh ((HG.out).inc (⟨ti,x,3,yk⟩:Edge));rw[hN]at HG7;clear hmd hN hval hst hm6 hm7 hu6 hu7;have hwr:IntKind.i64.wrap ((N:Int)+1)=(N:Int)+1:=IntWalk.i64_in _ (by omega)
     go_region_held3 (fun W'=>Upd (One bc) wb W') (first|exact hxz.drew|exact hU6|exact hU7) (fail)
     all_goals
      clear e1 e2 e3 e4 hwr;go_wp2
      go_end0
      exact⟨rfl,_,HM7.out,by rw[HV.out];exact HG7.out.congr (fun z=>by rw[Zaf];have:=HE.out z;omega),UB.out.trans hU7⟩
  ·have c4:(yt != 0)=true:=by simpa using c3
   by_cases c5:yt∈LD
   ·obtain⟨N0,hN0⟩:∃N0,Zn LW (yt,yk)=N0:=⟨_,rfl⟩;rw[hN0]at L2;simp only[if_pos c5]at L1
    by_cases c6:(N0:Int)=yn
    ·have c7:((N0:Int) != yn)=false:=by simpa using c6
     have HR:Hid (ZH LD LW LN ti ⟨yr,yk,yt,yn⟩=[⟨yt,ti,2,yk⟩]++if ZQ LN (yk,yt)≠0∧ZQ LN (yk,yt)≠ti then [⟨ti,ZQ LN (yk,yt),3,yk⟩] else []):=Qh (by
      unfold ZH;rw[if_neg c1,if_neg (fun h=>h.2 c5),if_neg (fun h=>h.2 (by rw[hN0];exact c6)),if_pos c3])
     clear c1 c3 c5 c6 hN0
     go_enter Tryz.func160,Tryz.ntmps160
     go_wp2
     go_quiet (fail)
     have hqu:=hrq nq;have hmu:MapE (wb.drewN nq) bc ZB mc:=MB.out
     generalize wb.drewN nq=wu at*
     go_wp2;have hmd:MapE wu.drew bc ZB mc:=hmu;obtain⟨N,hN⟩:∃N,g ⟨yt,ti,2,yk⟩=N:=⟨_,rfl⟩;have hval:(Zz mc (⟨yt,ti,2,yk⟩:Edge)).getD (.int .i64 0)= .int .i64 (N:Int):=by rw[(HG.out).val,hN]
     have hNl:N≤2000000000:=by have:=(BND.out ⟨yt,ti,2,yk⟩);omega
     obtain⟨st,w6,e2,hm6,hu6,hst⟩:=ZaX ZW Tryz.underlying109 ZE hmd (⟨yt,ti,2,yk⟩:Edge);have e1:=Zm ZW Tryz.underlying109 ZE hmd.is (⟨yt,ti,2,yk⟩:Edge);have e3:=Zm ZW Tryz.underlying109 ZE hm6.is (⟨yt,ti,2,yk⟩:Edge);rw[ZI,Option.getD_some]at e3;rw[hval]at e1 e2 e3;obtain⟨w7,e4,hm7,hu7⟩:=hst (.int .i64 ((N:Int)+1));change (Instr.lookup 109 (.map (some bc)) (.agg #[.int .i64 yt,.int .i64 ti,.int .i64 2,.int .i64 yk]) false).run Tryz.prog wu.drew= .ok (.int .i64 N) wu.drew at e1;change (Instr.lookup 109 (.map (some bc)) (.agg #[.int .i64 yt,.int .i64 ti,.int .i64 2,.int .i64 yk]) false).run Tryz.prog w6= .ok (.int .i64 N) w6 at e3;change (Instr.mapEntry 109 (.map (some bc)) (.agg #[.int .i64 yt,.int .i64 ti,.int .i64 2,.int .i64 yk])).run Tryz.prog wu.drew= .ok (.tuple #[.int .i64 N,.int .i64 st]) w6 at e2;change (Instr.entryStore 109 (.map (some bc)) (.int .i64 st) (.int .i64 ((N:Int)+1))).run Tryz.prog w6= .ok () w7 at e4;have hxz:Upd (One bc) wb wu:=hqu;have hU6:Upd (One bc) wb w6:=hxz.trans hu6.of_drew;have hU7:Upd (One bc) wb w7:=hxz.trans hu7.of_drew;have HM7:=Qh hm7;have HG7:=Qh ((HG.out).inc (⟨yt,ti,2,yk⟩:Edge));rw[hN]at HG7;clear hmd hN hval hst hm6 hm7 hu6 hu7;have hwr:IntKind.i64.wrap ((N:Int)+1)=(N:Int)+1:=IntWalk.i64_in _ (by omega)
     go_region_held3 (fun W'=>Upd (One bc) wb W') (first|exact hxz.drew|exact hU6|exact hU7) (fail)
     all_goals
      clear e1 e2 e3 e4 hwr;obtain⟨M2,hM2⟩:∃M2,Zs mc (⟨yt,ti,2,yk⟩:Edge) (.int .i64 ((N:Int)+1))=M2:=⟨_,rfl⟩;obtain⟨g1,hg1⟩:∃g1:Edge→Nat,(fun x=>g x+Zn [(⟨yt,ti,2,yk⟩:Edge)] x)=g1:=⟨_,rfl⟩;rw[hM2,hg1]at HG7;rw[hM2]at HM7;have HE:=Qh (show∀z,g1 z=g z+Zn [(⟨yt,ti,2,yk⟩:Edge)] z from fun z=>by rw[←hg1]);have HB1:=Qh (show∀z,g1 z≤1000000001 from fun z=>by have h1:=BND.out z;have h2:=Zgu [(⟨yt,ti,2,yk⟩:Edge)] z;simp at h2;rw[HE.out];omega);have HMA:=HM7;have HGA:=HG7;have hUA:=hU7;clear hM2 hg1 HM7 HG7 hU6 hU7 hxz;obtain⟨x,hx⟩:∃x,ZQ LN (yk,yt)=x:=⟨_,rfl⟩;rw[hx]at L3 HR;clear hx;have hq:=fun n=>Upd.drewN hUA n
      by_cases hx0:x=0
      ·have HV:=Qh (show ZH LD LW LN ti ⟨yr,yk,yt,yn⟩=[⟨yt,ti,2,yk⟩] by rw[HR.out,if_neg (fun h=>h.1 hx0),List.append_nil]);subst hx0;go_wp2
       go_quiet (fail)
       go_wp2
       go_end0
       exact⟨rfl,_,HMA.out,by rw[HV.out];exact(HGA.out).congr HE.out,UB.out.trans (Upd.drewN hUA _)⟩
      ·have hx1:(x != 0)=true:=by simpa using hx0
       by_cases hxt:x=ti
       ·have hx2:(x != ti)=false:=by simpa using hxt
        have HV:=Qh (show ZH LD LW LN ti ⟨yr,yk,yt,yn⟩=[⟨yt,ti,2,yk⟩] by rw[HR.out,if_neg (fun h=>h.2 hxt),List.append_nil]);clear hxt hx0;go_wp2
        go_quiet (fail)
        go_wp2
        go_end0
        exact⟨rfl,_,HMA.out,by rw[HV.out];exact(HGA.out).congr HE.out,UB.out.trans (Upd.drewN hUA _)⟩
       ·have hx2:(x != ti)=true:=by simpa using hxt
        have HV:=Qh (show ZH LD LW LN ti ⟨yr,yk,yt,yn⟩=[⟨yt,ti,2,yk⟩]++[⟨ti,x,3,yk⟩] by rw[HR.out,if_pos ⟨hx0,hxt⟩]);clear hxt hx0;go_wp2
        go_quiet (fail)
        have hqq:=hq nq;have hmq:MapE ((w7).drewN nq) bc ZB M2:=HMA.out
        generalize (w7).drewN nq=wq at*
        go_wp2;have hmd:MapE wq.drew bc ZB M2:=hmq;obtain⟨N,hN⟩:∃N,g1 ⟨ti,x,3,yk⟩=N:=⟨_,rfl⟩;have hval:(Zz M2 (⟨ti,x,3,yk⟩:Edge)).getD (.int .i64 0)= .int .i64 (N:Int):=by rw[(HGA.out).val,hN]
        have hNl:N≤2000000000:=by have:=(HB1.out ⟨ti,x,3,yk⟩);omega
        obtain⟨st,w6,e2,hm6,hu6,hst⟩:=ZaX ZW Tryz.underlying109 ZE hmd (⟨ti,x,3,yk⟩:Edge);have e1:=Zm ZW Tryz.underlying109 ZE hmd.is (⟨ti,x,3,yk⟩:Edge);have e3:=Zm ZW Tryz.underlying109 ZE hm6.is (⟨ti,x,3,yk⟩:Edge);rw[ZI,Option.getD_some]at e3;rw[hval]at e1 e2 e3;obtain⟨w7,e4,hm7,hu7⟩:=hst (.int .i64 ((N:Int)+1));change (Instr.lookup 109 (.map (some bc)) (.agg #[.int .i64 ti,.int .i64 x,.int .i64 3,.int .i64 yk]) false).run Tryz.prog wq.drew= .ok (.int .i64 N) wq.drew at e1;change (Instr.lookup 109 (.map (some bc)) (.agg #[.int .i64 ti,.int .i64 x,.int .i64 3,.int .i64 yk]) false).run Tryz.prog w6= .ok (.int .i64 N) w6 at e3;change (Instr.mapEntry 109 (.map (some bc)) (.agg #[.int .i64 ti,.int .i64 x,.int .i64 3,.int .i64 yk])).run Tryz.prog wq.drew= .ok (.tuple #[.int .i64 N,.int .i64 st]) w6 at e2;change (Instr.entryStore 109 (.map (some bc)) (.int .i64 st) (.int .i64 ((N:Int)+1))).run Tryz.prog w6= .ok () w7 at e4;have hxz:Upd (One bc) wb wq:=hqq;have hU6:Upd (One bc) wb w6:=hxz.trans hu6.of_drew;have hU7:Upd (One bc) wb w7:=hxz.trans hu7.of_drew;have HM7:=Qh hm7;have HG7:=Qh ((HGA.out).inc (⟨ti,x,3,yk⟩:Edge));rw[hN]at HG7;clear hmd hN hval hst hm6 hm7 hu6 hu7;have hwr:IntKind.i64.wrap ((N:Int)+1)=(N:Int)+1:=IntWalk.i64_in _ (by omega)
        go_region_held3 (fun W'=>Upd (One bc) wb W') (first|exact hxz.drew|exact hU6|exact hU7) (fail)
        all_goals
         clear e1 e2 e3 e4 hwr;go_wp2
         go_end0
         exact⟨rfl,_,HM7.out,by rw[HV.out];exact HG7.out.congr (fun z=>by rw[Zaf];have:=HE.out z;omega),UB.out.trans hU7⟩
    ·have c7:((N0:Int) != yn)=true:=by simpa using c6
     have HV:=Qh (show ZH LD LW LN ti ⟨yr,yk,yt,yn⟩=[] by unfold ZH;rw[if_neg c1,if_neg (fun h=>h.2 c5),if_pos ⟨c3,by rw[hN0];exact c6⟩]);clear c1 c3 c5 c6 hN0
     go_enter Tryz.func160,Tryz.ntmps160
     go_wp2
     go_quiet (fail)
     go_wp2
     go_end0
     exact⟨rfl,mc,MB.out,by rw[HV.out];exact H1.out,UB.out.trans (hr.drewN _)⟩
   ·have HV:=Qh (show ZH LD LW LN ti ⟨yr,yk,yt,yn⟩=[] by unfold ZH;rw[if_neg c1,if_pos ⟨c3,c5⟩]);simp only[if_neg c5]at L1;clear c1 c3 c5
    go_enter Tryz.func160,Tryz.ntmps160
    go_wp2
    go_quiet (fail)
    go_wp2
    go_end0
    exact⟨rfl,mc,MB.out,by rw[HV.out];exact H1.out,UB.out.trans (hr.drewN _)⟩
end
/- Edges of a history,as they are counted:in plain words. -/
section
open Go.RowKit
def wwO (key:Int):List Int→List Edge
 |[]=>[]
 |a::l=>(match l with|[]=>[]|b::_=>[⟨a,b,1,key⟩])++wwO key l
theorem Zho (key:Int):∀(l:List Int) {k:Nat} {a b:Int} (h1:k+1<l.length),l[k]=a→l[k+1]=b→wwO key (l.take (k+2))=wwO key (l.take (k+1))++[⟨a,b,1,key⟩]
 |x::y::l,0,a,b,_,ha,hb=>by
  simp at ha hb;subst ha hb;simp[wwO]
 |x::y::l,k+1,a,b,h,ha,hb=>by
  have ih:=Zho key (y::l) (k:=k) (a:=a) (b:=b) (by simpa using h) (by simpa using ha) (by simpa using hb);have e1:(x::y::l).take (k+1+2)=x::(y::l).take (k+2):=rfl;have e2:(x::y::l).take (k+1+1)=x::(y::l).take (k+1):=rfl;rw[e1,e2];have e3:∀n,wwO key (x::(y::l).take (n+1))=[⟨x,y,1,key⟩]++wwO key ((y::l).take (n+1)):=fun n=>rfl
  rw[e3 (k+1),e3 k,ih,List.append_assoc]
def wwC (cnt:Int→Bool) (o:HOrd):List Edge:=if cnt o.key then wwO o.key o.txs else []
def wwL (cnt:Int→Bool) (ords:List HOrd):List Edge:=ords.flatMap (wwC cnt)
theorem Zlo {cnt:Int→Bool} {ords:List HOrd} {k:Nat} {x:HOrd} (hk:k<ords.length) (hx:ords[k]=x):wwL cnt (ords.take (k+1))=wwL cnt (ords.take k)++wwC cnt x:=by
 subst hx;unfold wwL;rw[List.take_succ_eq_append_getElem hk,List.flatMap_append];simp
def Zay (L:List Edge) (e:Edge):Nat:=if e∈L then 1 else 0
theorem ZlX {m:List (Edge×Value)} {L:List Edge} (h:CntM m (Zay L)) (a:Edge):CntM (Zs m a (.int .i64 1)) (Zay (L++[a])):=by
 refine CntM.congr (show CntM (Zs m a (.int .i64 ((1:Nat):Int))) _ from h.put a 1 (by omega)) fun x=> ?_
 unfold Zay
 by_cases e:x=a
 ·subst e;simp
 ·simp[e]
def rdO (cnt:Int→Bool) (LD:List Int) (LW:List (Int×Int)) (LN:List ((Int×Int)×Int)) (ti:Int) (l:List HOp):List Edge:=(l.filter fun o=>o.read&&cnt o.key).flatMap (ZH LD LW LN ti)
theorem ZlD {cnt:Int→Bool} {LD:List Int} {LW:List (Int×Int)} {LN:List ((Int×Int)×Int)} {ti:Int} {l:List HOp} {k:Nat} {x:HOp} (hk:k<l.length) (hx:l[k]=x):
  rdO cnt LD LW LN ti (l.take (k+1))=rdO cnt LD LW LN ti (l.take k)++if x.read&&cnt x.key then ZH LD LW LN ti x else []:=by
 subst hx;unfold rdO;rw[List.take_succ_eq_append_getElem hk,List.filter_append,List.flatMap_append]
 cases h:(l[k].read&&cnt l[k].key)<;>simp[h]
def rdL (cnt:Int→Bool) (LD:List Int) (LW:List (Int×Int)) (LN:List ((Int×Int)×Int)) (txs:List HTx):List Edge:=(txs.filter (·.done)).flatMap fun t=>rdO cnt LD LW LN t.id t.ops
theorem ZlE {cnt:Int→Bool} {LD:List Int} {LW:List (Int×Int)} {LN:List ((Int×Int)×Int)} {txs:List HTx} {k:Nat} {x:HTx} (hk:k<txs.length) (hx:txs[k]=x):
  rdL cnt LD LW LN (txs.take (k+1))=rdL cnt LD LW LN (txs.take k)++if x.done then rdO cnt LD LW LN x.id x.ops else []:=by
 subst hx;unfold rdL;rw[List.take_succ_eq_append_getElem hk,List.filter_append,List.flatMap_append]
 cases h:txs[k].done<;>simp[h]
theorem ZgF (LD:List Int) (LW:List (Int×Int)) (LN:List ((Int×Int)×Int)) (ti:Int) (o:HOp):(ZH LD LW LN ti o).length≤2:=by
 unfold ZH
 split
 ·simp
 ·split
  ·simp
  ·split
   ·simp
   ·rw[List.length_append]
    split<;>split<;>simp
def ZjG (cnt:Int→Bool) (txs:List HTx) (ords:List HOrd) (e:Edge):Nat:=Zay (wwL cnt ords) e+Zn (rdL cnt (ZC txs) (Zi txs) (Zu ords) txs) e
def Zcc (cnt:Int→Bool) (h:Hist) (e:Edge):Nat:=if Za h=true then ZjG cnt h.txs h.ords e else 0
theorem Zm3 (L:List Edge) (e:Edge):Zay L e≤1:=by unfold Zay;split<;>omega
theorem Zkk {h:Hist} (hr:Za h=true):h.txs.length≤4096:=by
 apply Classical.byContradiction
 intro hn;rw[Zft (by omega)]at hr
 cases hr
theorem Zki {h:Hist} (hr:Za h=true) {t:HTx} (ht:t∈h.txs):t.ops.length≤4095:=by
 have h1:=(Zbk hr ht).1;unfold ZJ at h1
 split at h1
 ·cases h1
 ·split at h1
  ·cases h1
  ·omega
end
/- Edges of a history:dsg.counted is walked. -/
section
open Go.RowKit
def Znr (w:World) (g:Edge→Nat) (e:Ending) (w':World):Prop:=
 ∃bc mc,e= .returned (.map (some bc))∧w.heap.size≤bc∧MapE w' bc ZB mc∧CntM mc g∧Upd No w w'
theorem Zpc (w:World) (key k0:Int) (p:Addr) (hp:w.cell? p=some (.int .i64 k0)):Calls Tryz.prog 146 #[.int .i64 key,.pointer (some p)] w fun e w'=>e= .returned (.bool (key==k0))∧Upd No w w':=by
 go_enter Tryz.func146,Tryz.ntmps146
 go_wp2
 go_ret
 exact⟨rfl,Upd.refl _ _⟩
end
end Go.Proofs.YtblplapkdmhikaaGreat
