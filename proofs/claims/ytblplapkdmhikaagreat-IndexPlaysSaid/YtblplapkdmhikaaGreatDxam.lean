/- Maps that the calls themselves make: what is got Z6 a put; keys that are structs. -/
import Derived.Laws.StructEq
import Derived.Test.YtblplapkdmhikaaGreatProg
import Derived.IntWalk
import Derived.Test.YtblplapkdmhikaaGreatDxah
import Derived.Test.YtblplapkdmhikaaGreatDxak
namespace Go.Proofs.YtblplapkdmhikaaGreat
set_option linter.unusedVariables false
set_option linter.unusedSimpArgs false
section
open Go.RowKit
section
variable {α:Type} [DecidableEq α]
theorem Zfi (a b:α) (v:Value):∀(m:List (α×Value)) (i:Nat),look a m i=none→(look b (m++[(a,v)]) i).map (·.2)=if b=a then some v else (look b m i).map (·.2)
 |[],i,_=>by
  by_cases h:b=a<;>simp[look,h]
 |p::m,i,h=>by
  unfold look at h
  split at h
  ·cases h
  ·rename_i hne
   have ih:=Zfi a b v m (i+1) h;simp only[List.cons_append,look]
   by_cases hb:b=p.1
   ·rw[if_pos hb,if_pos hb,if_neg (by rw[hb];exact fun e=>hne e.symm)]
   ·rw[if_neg hb,if_neg hb];exact ih
theorem Zfh (a b:α) (v:Value):∀(m:List (α×Value)) (i:Nat) (r:Nat×Value),look a m i=some r→(look b (m.modify (r.1-i) fun p=>(p.1,v)) i).map (·.2)=if b=a then some v else (look b m i).map (·.2)
 |[],i,r,h=>by simp[look]at h
 |p::m,i,r,h=>by
  have hl:=ZbA a (p::m) i r h;unfold look at h
  split at h
  ·rename_i hab
   cases h
   simp only[Nat.sub_self,List.modify_zero_cons,look]
   by_cases hb:b=a
   ·rw[if_pos (by rw[hb,hab]),if_pos hb];rfl
   ·rw[if_neg (by rw[←hab];exact hb),if_neg hb,if_neg (by rw[←hab];exact hb)]
  ·rename_i hne
   have h1:=(ZbA a m (i+1) r h).1;have ih:=Zfh a b v m (i+1) r h;rw[show r.1-i=(r.1-(i+1))+1 by omega,List.modify_succ_cons];simp only[look]
   by_cases hb:b=p.1
   ·rw[if_pos hb,if_pos hb,if_neg (by rw[hb];exact fun e=>hne e.symm)]
   ·rw[if_neg hb,if_neg hb];exact ih
theorem Zal (m:List (α×Value)) (a b:α) (v:Value):Zm (Zt m a v) b=if b=a then some v else Zm m b:=by
 unfold Zm Zt
 cases h:look a m 0 with
 |none=>exact Zfi a b v m 0 h
 |some r=>
  have:=Zfh a b v m 0 r h;rw[Nat.sub_zero]at this;exact this
theorem Zz (m:List (α×Value)) (a:α) (v:Value):Zm (Zt m a v) a=some v:=by rw[Zal,if_pos rfl]
theorem Zv (m:List (α×Value)) {a b:α} (v:Value) (h:b≠a):Zm (Zt m a v) b=Zm m b:=by rw[Zal,if_neg h]
theorem ZaR (a:α):Zm ([]:List (α×Value)) a=none:=rfl
end
theorem KeyBy.agg_ {α:Type} [DecidableEq α] {P:Program} {kt:TypeId} {enc:α→Value} {fs:Array Field} (ht:P.underlying kt=some (.struct fs)) (hagg:∀a,∃cs,enc a= .agg cs)
  (hc:∀(w:World) (e:Bool) (a:α),(Instr.checkKey e 10000 kt (enc a)).run P w= .ok () w) (hb:∀a,Instr.sameBits 10000 (enc a) (enc a)=true)
  (heq:∀(w:World) (x y:α),(Op.equal kt (enc x) (enc y)).run P w= .ok (decide (x=y)) w):KeyBy P kt enc:=by
 refine⟨hc,hb,fun w a es m h=> ?_⟩;have h2:=Zb4 (a:=a) (enc:=enc) heq w es m 0 h;unfold Instr.findKey;obtain⟨cs,ha⟩:=hagg a
 cases es with
 |nil=>
  cases m with
  |nil=>simp[run_underlying ht,Instr.findNow,look]
  |cons p m=>simp at h
 |cons e es=>
  have hn:Instr.findNow (.struct fs) (enc a) (e::es) 0=none:=by
   unfold Instr.findNow;rw[ha];simp[Instr.sameNow]
  simp[run_underlying ht,hn,h2]
end
/- Maps by a key and a number,and by versions. -/
section
open Go.RowKit
def Za0 (p:Int×Int):Value:= .agg #[.int .i64 p.1,.int .i64 p.2]
def ZN (v:Ver):Value:= .agg #[.int .i64 v.tx,.int .i64 v.key,.int .i64 v.nth]
theorem Zja (w:World) (x y:Int×Int):(Op.equal 222 (Za0 x) (Za0 y)).run Tryz.prog w= .ok (decide (x=y)) w:=by
 obtain⟨a,b⟩:=x;obtain⟨a',b'⟩:=y;unfold Za0
 show(Op.equalIn 10000 _ _ _).run _ w=_
 rw[run_equalIn_struct w _ _ _ _ (by kernel_rfl) (by kernel_rfl)];have hI:∀(w:World) (d:Nat) (x y:Int),(Op.equalIn (d+1) 3 (.int .i64 x) (.int .i64 y)).run Tryz.prog w= .ok (x==y) w:=fun w d x y=>run_equalIn_int w d _ _ _ x y Tryz.underlying3
 by_cases h1:a=a'<;>by_cases h2:b=b'<;>
  simp[Program.fieldsOf,Tryz.underlying222,Op.eqFields,part,hI,h1,h2,Result.andThen]
theorem ZcG (w:World) (x y:Ver):(Op.equalIn 10000 36 (ZN x) (ZN y)).run Tryz.prog w= .ok (decide (x=y)) w:=by
 obtain⟨a,b,c⟩:=x;obtain⟨a',b',c'⟩:=y;unfold ZN;rw[run_equalIn_struct w _ _ _ _ (by kernel_rfl) (by kernel_rfl)];have hI:∀(w:World) (d:Nat) (x y:Int),(Op.equalIn (d+1) 3 (.int .i64 x) (.int .i64 y)).run Tryz.prog w= .ok (x==y) w:=fun w d x y=>run_equalIn_int w d _ _ _ x y Tryz.underlying3
 by_cases h1:a=a'<;>by_cases h2:b=b'<;>by_cases h3:c=c'<;>
  simp[Program.fieldsOf,Tryz.underlying36,Op.eqFields,part,hI,h1,h2,h3,Result.andThen]
theorem Zi5 (w:World) (x y:Ver):(binOp .neq 36 (ZN x) (ZN y)).run Tryz.prog w= .ok (.bool (x != y)) w:=by
 have:=ZcG w x y;unfold ZN at this ⊢;rw[run_neq_struct,this];simp only[Result.andThen]
 by_cases h:x=y<;>simp[h]
theorem Zgp (w:World) (e:Bool) (p:Int×Int):(Instr.checkKey e 10000 222 (Za0 p)).run Tryz.prog w= .ok () w:=by
 show(Instr.checkKey e (9998+1+1) _ _).run _ w=_
 generalize 9998=d
 have hI:∀(w:World) (x:Int),(Instr.checkKey e (d+1) 3 (.int .i64 x)).run Tryz.prog w= .ok () w:=fun w x=>by unfold Instr.checkKey;simp[run_underlying Tryz.underlying3]
 unfold Instr.checkKey Za0;simp[run_underlying Tryz.underlying222,←Array.forIn_toList,part,hI,Result.andThen]
theorem Zg4 (w:World) (e:Bool) (p:Ver):(Instr.checkKey e 10000 36 (ZN p)).run Tryz.prog w= .ok () w:=by
 show(Instr.checkKey e (9998+1+1) _ _).run _ w=_
 generalize 9998=d
 have hI:∀(w:World) (x:Int),(Instr.checkKey e (d+1) 3 (.int .i64 x)).run Tryz.prog w= .ok () w:=fun w x=>by unfold Instr.checkKey;simp[run_underlying Tryz.underlying3]
 unfold Instr.checkKey ZN;simp[run_underlying Tryz.underlying36,←Array.forIn_toList,part,hI,Result.andThen]
theorem ZbB:KeyBy Tryz.prog 222 Za0:=KeyBy.agg_ Tryz.underlying222 (fun a=>⟨_,rfl⟩) Zgp (fun a=>by simp[Za0,Instr.sameBits]) Zja
theorem ZaG:KeyBy Tryz.prog 36 ZN:=KeyBy.agg_ Tryz.underlying36 (fun a=>⟨_,rfl⟩) Zg4 (fun a=>by simp[ZN,Instr.sameBits]) ZcG
theorem Zbo (w:World):(zeroValue 3).run Tryz.prog w= .ok (.int .i64 0) w:=by kernel_rfl
def ZW (id:Int) (l:List HOp) (k:Nat):Int:=
 match l[k]? with
 |none=>0
 |some o=>if opB o=false then 1 else if o.read&&o.tx==id&& !decide (o.nth≤(wrN l o.key k:Int)) then 6 else 0
def Zo (id:Int) (l:List HOp):Nat→Int
 |0=>0
 |k+1=>if Zo id l k=0 then ZW id l k else Zo id l k
def Zp (id:Int) (l:List HOp):Int:=if idB id=false then 1 else if 4095<l.length then 9 else Zo id l l.length
def WrM (m:List ((Int×Int)×Value)) (l:List HOp) (k:Nat):Prop:=
 ∀key n:Int,(Zm m (key,n)).getD (.int .i64 0)= .int .i64 (if n=0 then (wrN l key k:Int) else if 1≤n∧n≤(wrN l key k:Int) then 1 else 0)
theorem WrM.nil (l:List HOp):WrM [] l 0:=fun key n=>by
 rw[ZaR];have:wrN l key 0=0:=rfl;rw[this]
 by_cases h:n=0
 ·rw[if_pos h];rfl
 ·rw[if_neg h,if_neg (by omega)];rfl
theorem WrM.skip {m:List ((Int×Int)×Value)} {l:List HOp} {k:Nat} (h:WrM m l k) (hk:k<l.length) (hr:l[k].read=true):WrM m l (k+1):=fun key n=>by
 rw[Zb8 hk rfl (by unfold isW;rw[hr];rfl)];exact h key n
theorem WrM.put {m:List ((Int×Int)×Value)} {l:List HOp} {k:Nat} {x:HOp} (h:WrM m l k) (hk:k<l.length) (hx:l[k]=x) (hr:x.read=false):
  WrM (Zt (Zt m (x.key,0) (.int .i64 ((wrN l x.key k:Int)+1))) (x.key,(wrN l x.key k:Int)+1) (.int .i64 1)) l (k+1):=fun key n=>by
 subst hx
 by_cases hkey:key=l[k].key
 ·subst hkey;rw[ZdR hk rfl (by unfold isW;rw[hr];simp)]
  by_cases h0:n=0
  ·subst h0;rw[Zv _ _ (fun e=>by injection e with _ e;omega),Zz,if_pos rfl];rfl
  ·rw[if_neg h0]
   by_cases h1:n=(wrN l l[k].key k:Int)+1
   ·rw[h1,Zz,if_pos (by omega)];rfl
   ·rw[Zv _ _ (fun e=>by injection e with _ e;exact h1 e),Zv _ _ (fun e=>by injection e with _ e;exact h0 e),h l[k].key n,if_neg h0]
    by_cases h2:1≤n∧n≤(wrN l l[k].key k:Int)
    ·rw[if_pos h2,if_pos (by omega)]
    ·rw[if_neg h2,if_neg (by omega)]
 ·rw[Zv _ _ (fun e=>by injection e with e _;exact hkey e),Zv _ _ (fun e=>by injection e with e _;exact hkey e),h key n,
   Zb8 hk rfl (by
    unfold isW;have:(l[k].key==key)=false:=by rw[beq_eq_false_iff_ne];exact fun e=>hkey e.symm
    rw[this];simp)]
end
/- Walks of edges:whether they are closed,and simple;by the program and by the document. -/
section
open Go.RowKit
def okC (l:List Edge) (i:Nat):Bool:=(l[i]?.map (·.t))==(l[(i+1)%l.length]?.map (·.f))
def ZjV (l:List Edge):Bool:=decide (0<l.length)&&(List.range l.length).all (okC l)
end
/- Walks:simple by the program;the bits of their kinds,by the program and by the document. -/
section
open Go.RowKit
section
variable {α:Type} [DecidableEq α]
theorem Zdh (a:α):∀(m:List (α×Value)) (i:Nat),look a m i=none↔a∉m.map (·.1)
 |[],i=>by simp[look]
 |p::m,i=>by
  unfold look
  by_cases h:a=p.1
  ·simp[h]
  ·simp only[List.map_cons,List.mem_cons,h,if_false,false_or];exact Zdh a m (i+1)
theorem Zhq (m:List (α×Value)) (a:α) (v:Value):(Zt m a v).map (·.1)=if a∈m.map (·.1) then m.map (·.1) else m.map (·.1)++[a]:=by
 unfold Zt
 cases h:look a m 0 with
 |none=>
  rw[if_neg ((Zdh a m 0).1 h),List.map_append];rfl
 |some r=>
  rw[if_pos (by
   rcases Classical.em (a∈m.map (·.1))with h'|h'
   ·exact h'
   ·rw[(Zdh a m 0).2 h']at h;cases h)]
  apply List.ext_getElem?
  intro j;simp only[List.getElem?_map,List.getElem?_modify]
  cases m[j]? with
  |none=>simp
  |some p=>by_cases hj:r.1=j<;>simp[hj]
end
theorem Zbj:KeyBy Tryz.prog 3 (fun n:Int=>Value.int .i64 n):=KeyBy.int_ Tryz.underlying3
def Zks (a b c:Bool):Int:=(if a then 2 else 0)+(if b then 4 else 0)+(if c then 8 else 0)
def Zix (l:List Edge) (n:Nat) (k:Int):Bool:=(l.take n).any fun e=>e.k==k
def Zkj (l:List Edge):Int:=Zks (Zix l l.length 1) (Zix l l.length 2) (Zix l l.length 3)
end
/- The document's own small walks over numbers:where one stands,how often,put among rising ones. -/
section
open Go.RowKit
def Zii (n:Int):List Int→List Int
 |[]=>[n]
 |x::l=>if n≤x then n::(x::l).filter (fun y=> !(y==n)) else x::Zii n l
def Zkx (w:World) (l:List Int) (e:Ending) (w':World):Prop:=∃A c,e= .returned (.slice A l.length c)∧w'.ownsRow w.heap.size 3 1 (.slice A l.length c) l.length (l.map (Value.int .i64))∧Upd No w w'
theorem Zh5:SlT Tryz.prog 64 3 1 8:=SlT.mk_ Tryz.underlying64 (z:= .int .i64 0) (by kernel_rfl) rfl (by omega)
end
/- The document on one transaction:what it needs of others. -/
section
open Go.RowKit
def VersR (F:Nat→Prop) (w:World) (A:Option Addr) (l:List Ver):Prop:=Recs F w A 3 (l.map Ver.cells)
theorem VersR.at_ {F:Nat→Prop} {w:World} {A:Option Addr} {l:List Ver} (h:VersR F w A l) {k:Nat} (hk:k<l.length):∃ad,A=some ad∧
  w.cell? (ad.add (k*3))=some (.int .i64 l[k].tx)∧w.cell? ⟨(ad.add (k*3)).block,(ad.add (k*3)).off+1,none⟩=some (.int .i64 l[k].key)∧
  w.cell? ⟨(ad.add (k*3)).block,(ad.add (k*3)).off+2,none⟩=some (.int .i64 l[k].nth):=by
 have hk':k<(l.map Ver.cells).length:=by simpa using hk
 obtain⟨ad,e,_,_,hc⟩:=Recs.at_ h hk';rw[List.getElem_map]at hc;exact⟨ad,e,by simpa using hc 0 _ rfl,by simpa using hc 1 _ rfl,by simpa using hc 2 _ rfl⟩
theorem VersR.upd {F S:Nat→Prop} {w w':World} {A:Option Addr} {l:List Ver} (h:VersR F w A l) (k:Upd S w w') (hn:∀i,F i→¬S i):VersR F w' A l:=Recs.upd h k hn
theorem Zd6 {l:List Ver}:∀r∈l.map Ver.cells,r.length=3:=fun r hr=>by
 obtain⟨e,_,rfl⟩:=List.mem_map.1 hr;rfl
theorem Zhb:SlT Tryz.prog 167 36 3 24:=SlT.mk_ Tryz.underlying167 (z:= .agg #[.int .i64 0,.int .i64 0,.int .i64 0]) (by kernel_rfl) rfl (by omega)
theorem Zi6 (w:World) (x y:Ver):(binOp .eql 36 (ZN x) (ZN y)).run Tryz.prog w= .ok (.bool (x==y)) w:=by
 have:=ZcG w x y;unfold ZN at this ⊢;rw[run_eql_struct,this];simp only[Result.andThen]
 by_cases h:x=y<;>simp[h]
theorem ZU {w':World} {base:Nat} {l:List Ver} {A:Option Addr} {c:Nat} (h:w'.ownsRow base 36 3 (.slice A l.length c) l.length (l.map Ver.cells).flatten):VersR (fun i=>base≤i) w' A l:=by
 have h2:=Recs.of_own (n:=l.length) (c:=c) Zd6 (by omega) h;exact Recs.weak h2 fun i _ hi=>(h.lt i hi).1
set_option maxRecDepth 100000 in
set_option maxHeartbeats 1000000 in
theorem Zkg (F:Nat→Prop) (w:World) (A:Option Addr) (c:Nat) (l:List Ver) (v:Ver) (h:VersR F w A l) (hl:l.length≤100000):
  Calls Tryz.prog 204 #[.slice A l.length c,.agg v.cells.toArray] w fun e w'=>e= .returned (.bool (l.contains v))∧Upd No w w':=by
 unfold Ver.cells;have bv:=Qh (Blk.new w 36 [.int .i64 v.tx,.int .i64 v.key,.int .i64 v.nth]);have uT:=(Upd.refl No w).alloc (.cells #[.int .i64 v.tx,.int .i64 v.key,.int .i64 v.nth] 36)
 go_enter Tryz.func204,Tryz.ntmps204
 go_wp2
 go_loopg [9] l.length (fun gk i wr=>∃(k:Nat),k+gk=l.length∧i= .int .i64 k∧Hid ((l.drop k).contains v=l.contains v)∧Upd No (w.alloc (.cells #[.int .i64 v.tx,.int .i64 v.key,.int .i64 v.nth] 36)) wr)
 case atStart=>exact⟨0,by omega,rfl,Qh rfl,Upd.refl _ _⟩
 case round=>
  obtain⟨k,hgk,rfl,hs,hu⟩:=hrel
  by_cases hlt:k<l.length
  ·obtain⟨ad,hAd,q0,q1,q2⟩:=(h.upd (uT.trans hu) (fun _ _=>id)).at_ hlt;obtain⟨x,hx⟩:∃x,l[k]=x:=⟨_,rfl⟩;rw[hx]at q0 q1 q2;subst hAd;have X:=Qh (show l.drop k=x::l.drop (k+1) by rw[←hx];exact List.drop_eq_getElem_cons hlt);have b1:(0:Int)≤(k:Int):=Qn _;have b2:(k:Int)<(l.length:Int):=by omega
   clear hx;have uA:=(Upd.refl No wr).alloc (.cells #[.int .i64 x.tx,.int .i64 x.key,.int .i64 x.nth] 36);have bb:=(bv.out.upd hu id).upd uA id;have v0:=bb.cell 0;have v1:=bb.cell 1;have v2:=bb.cell 2;simp only[Qz,Qs]at v0 v1 v2;have HE:=fun W=>Zi6 W x v
   unfold ZN at HE;have hst:=hs.out;rw[X.out,List.contains_cons]at hst;clear bb
   by_cases hxv:x=v
   ·have HV:=Qh (show l.contains v=true by rw[←hst,hxv];simp);have he:(x==v)=true:=by simpa using hxv
    rw[he]at HE;clear hst hxv he;go_wp2
    go_ret
    exact⟨by rw[HV.out];rfl,(uT.trans hu).trans uA⟩
   ·have he:(x==v)=false:=by simpa using hxv
    have he2:(v==x)=false:=by simpa using fun e=>hxv e.symm
    rw[he2,Bool.false_or]at hst;have HV:=Qh hst;rw[he]at HE;clear hst hxv he he2;go_wp2
    go_roundg (gk-1)
    case measure=>omega
    case rel=>exact⟨k+1,by omega,by go_num,HV,hu.trans uA⟩
  ·obtain rfl:k=l.length:=by omega
   have HV:=Qh (show l.contains v=false by rw[←hs.out,List.drop_length];rfl);go_wp2
   go_ret
   exact⟨by rw[HV.out];rfl,uT.trans hu⟩
def Zaj (id:Int) (o:HOp):Bool:=o.read&& !(o.tx==0)&& !(o.tx==id)
def Zw (id:Int) (acc:List Ver):List HOp→List Ver
 |[]=>acc
 |o::l=>Zw id (if Zaj id o&& !acc.contains (ZI o) then acc++[ZI o] else acc) l
theorem Zb3 (id:Int) (acc:List Ver) (o:HOp) (l:List HOp):Zw id acc (o::l)=Zw id (if Zaj id o&& !acc.contains (ZI o) then acc++[ZI o] else acc) l:=rfl
def ZkR (w:World) (l:List Ver) (e:Ending) (w':World):Prop:=∃A c,e= .returned (.slice A l.length c)∧w'.ownsRow w.heap.size 36 3 (.slice A l.length c) l.length (l.map Ver.cells).flatten∧Upd No w w'
set_option maxRecDepth 100000 in
set_option maxHeartbeats 1000000 in
theorem Ze5 (F:Nat→Prop) (w:World) (i0:Int) (dn:Bool) (A:Option Addr) (c:Nat) (l:List HOp) (h:HOps F w A l) (hl:l.length≤100000):
  Calls Tryz.prog 185 #[.agg #[.int .i64 i0,.bool dn,.slice A l.length c]] w (ZkR w (Zw i0 [] l)):=by
 have uT:=(Upd.refl No w).alloc (.cells #[.int .i64 i0,.bool dn,.slice A l.length c] 81);have bT:=Qh (Blk.new w 81 [.int .i64 i0,.bool dn,.slice A l.length c])
 go_enter Tryz.func185,Tryz.ntmps185
 go_wp2
 go_loopg [3,10] l.length (fun gk s i wr=>∃(k:Nat) (A3:Option Addr) (c3:Nat) (xs:List Ver),k+gk=l.length∧i= .int .i64 k∧s= .slice A3 xs.length c3∧Hid (Zw i0 xs (l.drop k)=Zw i0 [] l)∧xs.length≤k∧
  Hid (wr.ownsRow (w.heap.size+1) 36 3 (.slice A3 xs.length c3) xs.length (xs.map Ver.cells).flatten)∧Upd No (w.alloc (.cells #[.int .i64 i0,.bool dn,.slice A l.length c] 81)) wr)
 case atStart=>exact⟨0,none,0,[],by omega,rfl,rfl,Qh rfl,by simp,Qh (World.ownsRow_nil _ _ _ _),Upd.refl _ _⟩
 case round=>
  obtain⟨k,A3,c3,xs,hgk,rfl,rfl,hs,hxl,hown,hu⟩:=hrel
  by_cases hlt:k<l.length
  ·obtain⟨ad,hAd,q0,q1,q2,q3⟩:=(h.upd (uT.trans hu) (fun _ _=>id)).at_ hlt;obtain⟨x,hx⟩:∃x,l[k]=x:=⟨_,rfl⟩;rw[hx]at q0 q1 q2 q3;subst hAd;have X:=Qh (show l.drop k=x::l.drop (k+1) by rw[←hx];exact List.drop_eq_getElem_cons hlt);have b1:(0:Int)≤(k:Int):=Qn _;have b2:(k:Int)<(l.length:Int):=by omega
   clear hx;obtain⟨v,hv⟩:∃v,ZI x=v:=⟨_,rfl⟩;have bo:=Blk.new wr 95 [.bool x.read,.int .i64 x.key,.int .i64 x.tx,.int .i64 x.nth];have uA:=(Upd.refl No wr).alloc (.cells #[.bool x.read,.int .i64 x.key,.int .i64 x.tx,.int .i64 x.nth] 95);have hof:=Qh ((rof (wr.alloc (.cells #[.bool x.read,.int .i64 x.key,.int .i64 x.tx,.int .i64 x.nth] 95)) x).mono (R':=fun e w'=>e= .returned (.agg #[.int .i64 v.tx,.int .i64 v.key,.int .i64 v.nth])∧Upd No (wr.alloc (.cells #[.bool x.read,.int .i64 x.key,.int .i64 x.tx,.int .i64 x.nth] 95)) w') fun e w' h=>by rw[hv]at h;exact h);have BO:=Qh bo;have hst:=hs.out;rw[X.out,Zb3,hv]at hst;have HST:=Qh hst;have hz:=hu.size;clear hv hst bo
   go_wp2_with fail
   refine(hof.out).mono ?_;rintro e w1 ⟨rfl,hu1⟩;have uV:=hu1.alloc (.cells #[.int .i64 v.tx,.int .i64 v.key,.int .i64 v.nth] 36);have bv:=Blk.new w1 36 [.int .i64 v.tx,.int .i64 v.key,.int .i64 v.nth];have bo1:=BO.out.upd uV id;have bT1:=((bT.out.upd hu id).upd uA id).upd uV id;have HO:=Zb ((Zb hown.out uA (fun _ _=>id))) uV (fun _ _=>id);have HU:=Qh ((hu.trans uA).trans uV);have k0:=bo1.cell 0;have k2:=bo1.cell 2;have t0:=bT1.cell 0;have hz1:=(uA.trans uV).size;simp only[Qz,Qs,World.size_alloc]at k0 k2 t0 hz1 hz;have hin:=fun W (hW:Upd No (w1.alloc (.cells #[.int .i64 v.tx,.int .i64 v.key,.int .i64 v.nth] 36)) W)=>Zkg _ W A3 c3 xs v ((ZU HO).upd hW (fun _ _=>id)) (by omega)
   have HIN:=Qh hin;have HO':=Qh HO;have CV:∀W,Upd No (w1.alloc (.cells #[.int .i64 v.tx,.int .i64 v.key,.int .i64 v.nth] 36)) W→W.cell? ⟨w1.heap.size,0,none⟩=some (.int .i64 v.tx)∧W.cell? ⟨w1.heap.size,1,none⟩=some (.int .i64 v.key)∧W.cell? ⟨w1.heap.size,2,none⟩=some (.int .i64 v.nth):=fun W hW=>⟨(bv.upd hW id).cell 0,(bv.upd hW id).cell 1,(bv.upd hW id).cell 2⟩
   have HCV:=Qh CV;clear CV uV uA hu1 bv bo1 bT1 hin HO
   cases hr:x.read
   ·have HV:=Qh (show Zw i0 xs (l.drop (k+1))=Zw i0 [] l by rw[←HST.out];unfold Zaj;rw[hr];simp);rw[hr]at k0;clear hr;go_wp2
    go_roundg (gk-1)
    case measure=>omega
    case rel=>exact⟨k+1,A3,c3,xs,by omega,by go_num,rfl,HV,by omega,HO',HU.out⟩
   ·rw[hr]at k0
    by_cases h0:x.tx=0
    ·have HV:=Qh (show Zw i0 xs (l.drop (k+1))=Zw i0 [] l by rw[←HST.out];unfold Zaj;rw[h0];simp);have h0b:(x.tx != 0)=false:=by rw[h0];rfl
     clear hr h0;go_wp2
     go_roundg (gk-1)
     case measure=>omega
     case rel=>exact⟨k+1,A3,c3,xs,by omega,by go_num,rfl,HV,by omega,HO',HU.out⟩
    ·have h0b:(x.tx != 0)=true:=by rw[bne_iff_ne];exact h0
     by_cases h1:x.tx=i0
     ·have HV:=Qh (show Zw i0 xs (l.drop (k+1))=Zw i0 [] l by rw[←HST.out];unfold Zaj;rw[h1];simp);have h1b:(x.tx != i0)=false:=by rw[h1];simp
      clear hr h0 h1;go_wp2
      go_roundg (gk-1)
      case measure=>omega
      case rel=>exact⟨k+1,A3,c3,xs,by omega,by go_num,rfl,HV,by omega,HO',HU.out⟩
     ·have h1b:(x.tx != i0)=true:=by rw[bne_iff_ne];exact h1
      have hq:Zaj i0 x=true:=by unfold Zaj;rw[hr];simp[h0,h1]
      have HV:=Qh (show Zw i0 (if !xs.contains v then xs++[v] else xs) (l.drop (k+1))=Zw i0 [] l by rw[←HST.out,hq];rfl);have v0:=(HCV.out _ (Upd.refl _ _)).1;have v1:=(HCV.out _ (Upd.refl _ _)).2.1;have v2:=(HCV.out _ (Upd.refl _ _)).2.2;clear hr h0 h1 hq
      go_wp2_with fail
      refine(HIN.out _ (Upd.refl _ _)).mono ?_;rintro e w2 ⟨rfl,hu2⟩;have HU2:=Qh (HU.out.trans hu2);have hown3:=Zb HO'.out hu2 (fun _ _=>id);have hz2:=hu2.size;simp only[World.size_alloc]at hz2;have v0':=(HCV.out _ hu2).1;have v1':=(HCV.out _ hu2).2.1;have v2':=(HCV.out _ hu2).2.2;clear hu2 v0 v1 v2
      cases hc:xs.contains v
      ·have HV2:=Qh (show Zw i0 (xs++[v]) (l.drop (k+1))=Zw i0 [] l by rw[←HV.out,hc];rfl);clear hc
       go_wp2_with (at_builtin;refine ZS rfl rfl Zhb (v:= .slice A3 xs.length c3) (cells:=[.int .i64 v.tx,.int .i64 v.key,.int .i64 v.nth]) (by rfl) rfl hown3 rfl rfl (by omega) (by omega) (by omega) ?_;intro g' c' w4 hown4 hu4 hg4 hlt4)
       go_roundg (gk-1)
       case measure=>omega
       case rel=>exact⟨k+1,some ⟨g',0,none⟩,c',xs++[v],by omega,by go_num,by simp,HV2,by simp;omega,Qh (by simpa[Ver.cells]using hown4),HU2.out.then_ hu4 fun i e=> .inr (by have:=(hown3.lt i e).1;simp only[World.size_alloc];omega)⟩
      ·have HV2:=Qh (show Zw i0 xs (l.drop (k+1))=Zw i0 [] l by rw[←HV.out,hc];rfl);clear hc;go_wp2
       go_roundg (gk-1)
       case measure=>omega
       case rel=>exact⟨k+1,A3,c3,xs,by omega,by go_num,rfl,HV2,by omega,Qh hown3,HU2.out⟩
  ·obtain rfl:k=l.length:=by omega
   have HV:=Qh (show xs=Zw i0 [] l by rw[←hs.out,List.drop_length];rfl);go_wp2
   go_ret
   exact⟨A3,c3,by rw[←HV.out];rfl,by rw[←HV.out];exact ZJ hown.out (by omega),uT.trans hu⟩
end
end Go.Proofs.YtblplapkdmhikaaGreat
