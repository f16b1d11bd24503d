/- Maps that the calls themselves make: what is got ZaI a put; keys that are structs. -/
import Derived.Laws.StructEq
import Derived.Test.YtdbjokfejmgepaaProg
import Derived.Test.YtdbjokfejmgepaaRaae
import Derived.Test.YtdbjokfejmgepaaRaah
import Derived.Test.YtdbjokfejmgepaaRaak
namespace Go.Proofs.Ytdbjokfejmgepaa
set_option linter.unusedVariables false
set_option linter.unusedSimpArgs false
section
open Go.RowKit
section
variable {α:Type} [DecidableEq α]
theorem ZhB (a b:α) (v:Value):∀(m:List (α×Value)) (i:Nat),look a m i=none→(look b (m++[(a,v)]) i).map (·.2)=if b=a then some v else (look b m i).map (·.2)
 |[],i,_=>by
  by_cases h:b=a<;>simp[look,h]
 |p::m,i,h=>by
  unfold look at h
  split at h
  ·cases h
  ·rename_i hne
   have ih:=ZhB a b v m (i+1) h;simp only[List.cons_append,look]
   by_cases hb:b=p.1
   ·rw[if_pos hb,if_pos hb,if_neg (by rw[hb];exact fun e=>hne e.symm)]
   ·rw[if_neg hb,if_neg hb];exact ih
theorem ZhA (a b:α) (v:Value):∀(m:List (α×Value)) (i:Nat) (r:Nat×Value),look a m i=some r→(look b (m.modify (r.1-i) fun p=>(p.1,v)) i).map (·.2)=if b=a then some v else (look b m i).map (·.2)
 |[],i,r,h=>by simp[look]at h
 |p::m,i,r,h=>by
  have hl:=Zf5 a (p::m) i r h;unfold look at h
  split at h
  ·rename_i hab
   cases h
   simp only[Nat.sub_self,List.modify_zero_cons,look]
   by_cases hb:b=a
   ·rw[if_pos (by rw[hb,hab]),if_pos hb];rfl
   ·rw[if_neg (by rw[←hab];exact hb),if_neg hb,if_neg (by rw[←hab];exact hb)]
  ·rename_i hne
   have h1:=(Zf5 a m (i+1) r h).1;have ih:=ZhA a b v m (i+1) r h;rw[show r.1-i=(r.1-(i+1))+1 by omega,List.modify_succ_cons];simp only[look]
   by_cases hb:b=p.1
   ·rw[if_pos hb,if_pos hb,if_neg (by rw[hb];exact fun e=>hne e.symm)]
   ·rw[if_neg hb,if_neg hb];exact ih
theorem ZbB (m:List (α×Value)) (a b:α) (v:Value):Z8 (Zbh m a v) b=if b=a then some v else Z8 m b:=by
 unfold Z8 Zbh
 cases h:look a m 0 with
 |none=>exact ZhB a b v m 0 h
 |some r=>
  have:=ZhA a b v m 0 r h;rw[Nat.sub_zero]at this;exact this
theorem Za2 (m:List (α×Value)) (a:α) (v:Value):Z8 (Zbh m a v) a=some v:=by rw[ZbB,if_pos rfl]
theorem ZR (m:List (α×Value)) {a b:α} (v:Value) (h:b≠a):Z8 (Zbh m a v) b=Z8 m b:=by rw[ZbB,if_neg h]
theorem ZdA (a:α):Z8 ([]:List (α×Value)) a=none:=rfl
end
end
/- Maps by a key and a number,and by versions. -/
section
open Go.RowKit
def ZeK (v:Ver):Value:= .agg #[.int .i64 v.tx,.int .i64 v.key,.int .i64 v.nth]
theorem Zi8 (w:World) (x y:Ver):(Op.equalIn 10000 28 (ZeK x) (ZeK y)).run Try.prog w= .ok (decide (x=y)) w:=by
 obtain⟨a,b,c⟩:=x;obtain⟨a',b',c'⟩:=y;unfold ZeK;rw[run_equalIn_struct w _ _ _ _ (by kernel_rfl) (by kernel_rfl)];have hI:∀(w:World) (d:Nat) (x y:Int),(Op.equalIn (d+1) 3 (.int .i64 x) (.int .i64 y)).run Try.prog w= .ok (x==y) w:=fun w d x y=>run_equalIn_int w d _ _ _ x y Try.underlying3
 by_cases h1:a=a'<;>by_cases h2:b=b'<;>by_cases h3:c=c'<;>
  simp[Program.fieldsOf,Try.underlying28,Op.eqFields,part,hI,h1,h2,h3,Result.andThen]
def ZfO (id:Int) (l:List HOp) (k:Nat):Int:=
 match l[k]? with
 |none=>0
 |some o=>if opB o=false then 1 else if o.read&&o.tx==id&& !decide (o.nth≤(wrN l o.key k:Int)) then 6 else 0
def Zaz (id:Int) (l:List HOp):Nat→Int
 |0=>0
 |k+1=>if Zaz id l k=0 then ZfO id l k else Zaz id l k
def ZaC (id:Int) (l:List HOp):Int:=if idB id=false then 1 else if 4095<l.length then 9 else Zaz id l l.length
def WrM (m:List ((Int×Int)×Value)) (l:List HOp) (k:Nat):Prop:=
 ∀key n:Int,(Z8 m (key,n)).getD (.int .i64 0)= .int .i64 (if n=0 then (wrN l key k:Int) else if 1≤n∧n≤(wrN l key k:Int) then 1 else 0)
theorem WrM.nil (l:List HOp):WrM [] l 0:=fun key n=>by
 rw[ZdA];have:wrN l key 0=0:=rfl;rw[this]
 by_cases h:n=0
 ·rw[if_pos h];rfl
 ·rw[if_neg h,if_neg (by omega)];rfl
theorem WrM.skip {m:List ((Int×Int)×Value)} {l:List HOp} {k:Nat} (h:WrM m l k) (hk:k<l.length) (hr:l[k].read=true):WrM m l (k+1):=fun key n=>by
 rw[Ze9 hk rfl (by unfold isW;rw[hr];rfl)];exact h key n
theorem WrM.put {m:List ((Int×Int)×Value)} {l:List HOp} {k:Nat} {x:HOp} (h:WrM m l k) (hk:k<l.length) (hx:l[k]=x) (hr:x.read=false):
  WrM (Zbh (Zbh m (x.key,0) (.int .i64 ((wrN l x.key k:Int)+1))) (x.key,(wrN l x.key k:Int)+1) (.int .i64 1)) l (k+1):=fun key n=>by
 subst hx
 by_cases hkey:key=l[k].key
 ·subst hkey;rw[Zib hk rfl (by unfold isW;rw[hr];simp)]
  by_cases h0:n=0
  ·subst h0;rw[ZR _ _ (fun e=>by injection e with _ e;omega),Za2,if_pos rfl];rfl
  ·rw[if_neg h0]
   by_cases h1:n=(wrN l l[k].key k:Int)+1
   ·rw[h1,Za2,if_pos (by omega)];rfl
   ·rw[ZR _ _ (fun e=>by injection e with _ e;exact h1 e),ZR _ _ (fun e=>by injection e with _ e;exact h0 e),h l[k].key n,if_neg h0]
    by_cases h2:1≤n∧n≤(wrN l l[k].key k:Int)
    ·rw[if_pos h2,if_pos (by omega)]
    ·rw[if_neg h2,if_neg (by omega)]
 ·rw[ZR _ _ (fun e=>by injection e with e _;exact hkey e),ZR _ _ (fun e=>by injection e with e _;exact hkey e),h key n,
   Ze9 hk rfl (by
    unfold isW;have:(l[k].key==key)=false:=by rw[beq_eq_false_iff_ne];exact fun e=>hkey e.symm
    rw[this];simp)]
end
/- Walks:simple by the program;the bits of their kinds,by the program and by the document. -/
section
open Go.RowKit
section
variable {α:Type} [DecidableEq α]
end
def ZmG (a b c:Bool):Int:=(if a then 2 else 0)+(if b then 4 else 0)+(if c then 8 else 0)
def ZkE (l:List Edge) (n:Nat) (k:Int):Bool:=(l.take n).any fun e=>e.k==k
def Zmx (l:List Edge):Int:=ZmG (ZkE l l.length 1) (ZkE l l.length 2) (ZkE l l.length 3)
end
/- The document on one transaction:keys,needs,right. -/
section
open Go.RowKit
def Zaw (tch:Bool) (s:List Int):List HOp→List Int
 |[]=>s
 |o::l=>Zaw tch (if tch|| !o.read then Zd o.key s else s) l
theorem ZdE (tch:Bool) (s:List Int) (o:HOp) (l:List HOp):Zaw tch s (o::l)=Zaw tch (if tch|| !o.read then Zd o.key s else s) l:=rfl
theorem Zco {w w':World} {A:Option Addr} {c:Nat} {l:List Int} (h:w'.ownsRow w.heap.size 3 1 (.slice A l.length c) l.length (l.map (Value.int .i64))):Ints (fun i=>w.heap.size≤i) w' A l:=Ints.of_own h
set_option maxRecDepth 100000 in
set_option maxHeartbeats 1000000 in
theorem Zno (F:Nat→Prop) (w:World) (i0:Int) (dn:Bool) (A:Option Addr) (c:Nat) (l:List HOp) (tch:Bool) (h:HOps F w A l) (hl:l.length≤100000):
  Calls Try.prog 94 #[.agg #[.int .i64 i0,.bool dn,.slice A l.length c],.bool tch] w (Ze8 w (Zaw tch [] l)):=by
 have uT:=(Upd.refl No w).alloc (.cells #[.int .i64 i0,.bool dn,.slice A l.length c] 35)
 go_enter Try.func94,Try.ntmps94
 go_wp2
 go_loopg [5,11] l.length (fun gk s i wr=>∃(k:Nat) (A3:Option Addr) (c3:Nat) (xs:List Int),k+gk=l.length∧i= .int .i64 k∧s= .slice A3 xs.length c3∧Hid (Zaw tch xs (l.drop k)=Zaw tch [] l)∧xs.length≤k∧
  Hid (wr.ownsRow w.heap.size 3 1 (.slice A3 xs.length c3) xs.length (xs.map (Value.int .i64)))∧Upd No w wr)
 case atStart=>exact⟨0,none,0,[],by omega,rfl,rfl,Qh rfl,by simp,Qh (World.ownsRow_nil _ _ _ _),uT⟩
 case round=>
  obtain⟨k,A3,c3,xs,hgk,rfl,rfl,hs,hxl,hown,hu⟩:=hrel
  by_cases hlt:k<l.length
  ·obtain⟨ad,hAd,q0,q1,q2,q3⟩:=(h.upd hu (fun _ _=>id)).at_ hlt;obtain⟨x,hx⟩:∃x,l[k]=x:=⟨_,rfl⟩;rw[hx]at q0 q1 q2 q3;subst hAd;have X:=Qh (show l.drop k=x::l.drop (k+1) by rw[←hx];exact List.drop_eq_getElem_cons hlt);have b1:(0:Int)≤(k:Int):=Qn _;have b2:(k:Int)<(l.length:Int):=by omega
   clear hx;have bo:=Blk.new wr 58 [.bool x.read,.int .i64 x.key,.int .i64 x.tx,.int .i64 x.nth];have uA:=(Upd.refl No wr).alloc (.cells #[.bool x.read,.int .i64 x.key,.int .i64 x.tx,.int .i64 x.nth] 58);have HP:=Qh (ZkY _ (wr.alloc (.cells #[.bool x.read,.int .i64 x.key,.int .i64 x.tx,.int .i64 x.nth] 58)) A3 c3 xs x.key ((Zco hown.out).upd uA (fun _ _=>id)) (by omega));have hst:=hs.out;rw[X.out,ZdE]at hst;have hz:=hu.size
   by_cases hc:(tch|| !x.read)=true
   ·rw[if_pos hc]at hst;have HS:=Qh hst;have hlen:=Zk x.key xs;clear hst
    cases tch
    ·have hr:x.read=false:=by simpa using hc
     rw[hr]at q0 HP uA bo;clear hc hr
     go_wp2_with (go_at_call 97;refine HP.out.mono ?_;rintro e w1 ⟨A4,c4,rfl,ho4,hu4⟩)
     go_roundg (gk-1)
     case measure=>omega
     case rel=>exact⟨k+1,A4,c4,Zd x.key xs,by omega,by go_num,rfl,HS,by omega,Qh (Z1 ho4 (by simp;omega)),(hu.trans uA).trans hu4⟩
    ·go_wp2_with (go_at_call 97;refine HP.out.mono ?_;rintro e w1 ⟨A4,c4,rfl,ho4,hu4⟩)
     go_roundg (gk-1)
     case measure=>omega
     case rel=>exact⟨k+1,A4,c4,Zd x.key xs,by omega,by go_num,rfl,HS,by omega,Qh (Z1 ho4 (by simp;omega)),(hu.trans uA).trans hu4⟩
   ·rw[if_neg hc]at hst;have HS:=Qh hst;have hc2:tch=false∧x.read=true:=by simpa using hc
    obtain⟨rfl,hr⟩:=hc2;rw[hr]at q0 uA;have HO:=Qh (Zc hown.out uA (fun _ _=>id));clear hst hc hr;go_wp2
    go_roundg (gk-1)
    case measure=>omega
    case rel=>exact⟨k+1,A3,c3,xs,by omega,by go_num,rfl,HS,by omega,HO,hu.trans uA⟩
  ·obtain rfl:k=l.length:=by omega
   have HV:=Qh (show xs=Zaw tch [] l by rw[←hs.out,List.drop_length];rfl);go_wp2
   go_ret
   exact⟨A3,c3,by rw[←HV.out];rfl,by rw[←HV.out];exact hown.out,hu⟩
end
/- The document on one transaction:what it needs of others. -/
section
open Go.RowKit
def VersR (F:Nat→Prop) (w:World) (A:Option Addr) (l:List Ver):Prop:=Recs F w A 3 (l.map Ver.cells)
theorem VersR.at_ {F:Nat→Prop} {w:World} {A:Option Addr} {l:List Ver} (h:VersR F w A l) {k:Nat} (hk:k<l.length):∃ad,A=some ad∧
  w.cell? (ad.add (k*3))=some (.int .i64 l[k].tx)∧w.cell? ⟨(ad.add (k*3)).block,(ad.add (k*3)).off+1,none⟩=some (.int .i64 l[k].key)∧
  w.cell? ⟨(ad.add (k*3)).block,(ad.add (k*3)).off+2,none⟩=some (.int .i64 l[k].nth):=by
 have hk':k<(l.map Ver.cells).length:=by simpa using hk
 obtain⟨ad,e,_,_,hc⟩:=Recs.at_ h hk';rw[List.getElem_map]at hc;exact⟨ad,e,by simpa using hc 0 _ rfl,by simpa using hc 1 _ rfl,by simpa using hc 2 _ rfl⟩
theorem VersR.upd {F S:Nat→Prop} {w w':World} {A:Option Addr} {l:List Ver} (h:VersR F w A l) (k:Upd S w w') (hn:∀i,F i→¬S i):VersR F w' A l:=Recs.upd h k hn
theorem Zi7 {l:List Ver}:∀r∈l.map Ver.cells,r.length=3:=fun r hr=>by
 obtain⟨e,_,rfl⟩:=List.mem_map.1 hr;rfl
theorem Zjb:SlT Try.prog 136 28 3 24:=SlT.mk_ Try.underlying136 (z:= .agg #[.int .i64 0,.int .i64 0,.int .i64 0]) (by kernel_rfl) rfl (by omega)
theorem Zlf (w:World) (x y:Ver):(binOp .eql 28 (ZeK x) (ZeK y)).run Try.prog w= .ok (.bool (x==y)) w:=by
 have:=Zi8 w x y;unfold ZeK at this ⊢;rw[run_eql_struct,this];simp only[Result.andThen]
 by_cases h:x=y<;>simp[h]
theorem Zev {w':World} {base:Nat} {l:List Ver} {A:Option Addr} {c:Nat} (h:w'.ownsRow base 28 3 (.slice A l.length c) l.length (l.map Ver.cells).flatten):VersR (fun i=>base≤i) w' A l:=by
 have h2:=Recs.of_own (n:=l.length) (c:=c) Zi7 (by omega) h;exact Recs.weak h2 fun i _ hi=>(h.lt i hi).1
set_option maxRecDepth 100000 in
set_option maxHeartbeats 1000000 in
theorem ZnU (F:Nat→Prop) (w:World) (A:Option Addr) (c:Nat) (l:List Ver) (v:Ver) (h:VersR F w A l) (hl:l.length≤100000):
  Calls Try.prog 101 #[.slice A l.length c,.agg v.cells.toArray] w fun e w'=>e= .returned (.bool (l.contains v))∧Upd No w w':=by
 unfold Ver.cells;have bv:=Qh (Blk.new w 28 [.int .i64 v.tx,.int .i64 v.key,.int .i64 v.nth]);have uT:=(Upd.refl No w).alloc (.cells #[.int .i64 v.tx,.int .i64 v.key,.int .i64 v.nth] 28)
 go_enter Try.func101,Try.ntmps101
 go_wp2
 go_loopg [9] l.length (fun gk i wr=>∃(k:Nat),k+gk=l.length∧i= .int .i64 k∧Hid ((l.drop k).contains v=l.contains v)∧Upd No (w.alloc (.cells #[.int .i64 v.tx,.int .i64 v.key,.int .i64 v.nth] 28)) wr)
 case atStart=>exact⟨0,by omega,rfl,Qh rfl,Upd.refl _ _⟩
 case round=>
  obtain⟨k,hgk,rfl,hs,hu⟩:=hrel
  by_cases hlt:k<l.length
  ·obtain⟨ad,hAd,q0,q1,q2⟩:=(h.upd (uT.trans hu) (fun _ _=>id)).at_ hlt;obtain⟨x,hx⟩:∃x,l[k]=x:=⟨_,rfl⟩;rw[hx]at q0 q1 q2;subst hAd;have X:=Qh (show l.drop k=x::l.drop (k+1) by rw[←hx];exact List.drop_eq_getElem_cons hlt);have b1:(0:Int)≤(k:Int):=Qn _;have b2:(k:Int)<(l.length:Int):=by omega
   clear hx;have uA:=(Upd.refl No wr).alloc (.cells #[.int .i64 x.tx,.int .i64 x.key,.int .i64 x.nth] 28);have bb:=(bv.out.upd hu id).upd uA id;have v0:=bb.cell 0;have v1:=bb.cell 1;have v2:=bb.cell 2;simp only[Qz,Qs]at v0 v1 v2;have HE:=fun W=>Zlf W x v
   unfold ZeK at HE;have hst:=hs.out;rw[X.out,List.contains_cons]at hst;clear bb
   by_cases hxv:x=v
   ·have HV:=Qh (show l.contains v=true by rw[←hst,hxv];simp);have he:(x==v)=true:=by simpa using hxv
    rw[he]at HE;clear hst hxv he;go_wp2
    go_ret
    exact⟨by rw[HV.out];rfl,(uT.trans hu).trans uA⟩
   ·have he:(x==v)=false:=by simpa using hxv
    have he2:(v==x)=false:=by simpa using fun e=>hxv e.symm
    rw[he2,Bool.false_or]at hst;have HV:=Qh hst;rw[he]at HE;clear hst hxv he he2;go_wp2
    go_roundg (gk-1)
    case measure=>omega
    case rel=>exact⟨k+1,by omega,by go_num,HV,hu.trans uA⟩
  ·obtain rfl:k=l.length:=by omega
   have HV:=Qh (show l.contains v=false by rw[←hs.out,List.drop_length];rfl);go_wp2
   go_ret
   exact⟨by rw[HV.out];rfl,uT.trans hu⟩
def ZaA (id:Int) (o:HOp):Bool:=o.read&& !(o.tx==0)&& !(o.tx==id)
def Zr (id:Int) (acc:List Ver):List HOp→List Ver
 |[]=>acc
 |o::l=>Zr id (if ZaA id o&& !acc.contains (ZT o) then acc++[ZT o] else acc) l
theorem Zc4 (id:Int) (acc:List Ver) (o:HOp) (l:List HOp):Zr id acc (o::l)=Zr id (if ZaA id o&& !acc.contains (ZT o) then acc++[ZT o] else acc) l:=rfl
def Zny (w:World) (l:List Ver) (e:Ending) (w':World):Prop:=∃A c,e= .returned (.slice A l.length c)∧w'.ownsRow w.heap.size 28 3 (.slice A l.length c) l.length (l.map Ver.cells).flatten∧Upd No w w'
set_option maxRecDepth 100000 in
set_option maxHeartbeats 1000000 in
theorem Zmp (F:Nat→Prop) (w:World) (i0:Int) (dn:Bool) (A:Option Addr) (c:Nat) (l:List HOp) (h:HOps F w A l) (hl:l.length≤100000):
  Calls Try.prog 92 #[.agg #[.int .i64 i0,.bool dn,.slice A l.length c]] w (Zny w (Zr i0 [] l)):=by
 have uT:=(Upd.refl No w).alloc (.cells #[.int .i64 i0,.bool dn,.slice A l.length c] 35);have bT:=Qh (Blk.new w 35 [.int .i64 i0,.bool dn,.slice A l.length c])
 go_enter Try.func92,Try.ntmps92
 go_wp2
 go_loopg [3,10] l.length (fun gk s i wr=>∃(k:Nat) (A3:Option Addr) (c3:Nat) (xs:List Ver),k+gk=l.length∧i= .int .i64 k∧s= .slice A3 xs.length c3∧Hid (Zr i0 xs (l.drop k)=Zr i0 [] l)∧xs.length≤k∧
  Hid (wr.ownsRow (w.heap.size+1) 28 3 (.slice A3 xs.length c3) xs.length (xs.map Ver.cells).flatten)∧Upd No (w.alloc (.cells #[.int .i64 i0,.bool dn,.slice A l.length c] 35)) wr)
 case atStart=>exact⟨0,none,0,[],by omega,rfl,rfl,Qh rfl,by simp,Qh (World.ownsRow_nil _ _ _ _),Upd.refl _ _⟩
 case round=>
  obtain⟨k,A3,c3,xs,hgk,rfl,rfl,hs,hxl,hown,hu⟩:=hrel
  by_cases hlt:k<l.length
  ·obtain⟨ad,hAd,q0,q1,q2,q3⟩:=(h.upd (uT.trans hu) (fun _ _=>id)).at_ hlt;obtain⟨x,hx⟩:∃x,l[k]=x:=⟨_,rfl⟩;rw[hx]at q0 q1 q2 q3;subst hAd;have X:=Qh (show l.drop k=x::l.drop (k+1) by rw[←hx];exact List.drop_eq_getElem_cons hlt);have b1:(0:Int)≤(k:Int):=Qn _;have b2:(k:Int)<(l.length:Int):=by omega
   clear hx;obtain⟨v,hv⟩:∃v,ZT x=v:=⟨_,rfl⟩;have bo:=Blk.new wr 58 [.bool x.read,.int .i64 x.key,.int .i64 x.tx,.int .i64 x.nth];have uA:=(Upd.refl No wr).alloc (.cells #[.bool x.read,.int .i64 x.key,.int .i64 x.tx,.int .i64 x.nth] 58);have hof:=Qh ((rof (wr.alloc (.cells #[.bool x.read,.int .i64 x.key,.int .i64 x.tx,.int .i64 x.nth] 58)) x).mono (R':=fun e w'=>e= .returned (.agg #[.int .i64 v.tx,.int .i64 v.key,.int .i64 v.nth])∧Upd No (wr.alloc (.cells #[.bool x.read,.int .i64 x.key,.int .i64 x.tx,.int .i64 x.nth] 58)) w') fun e w' h=>by rw[hv]at h;exact h);have BO:=Qh bo;have hst:=hs.out;rw[X.out,Zc4,hv]at hst;have HST:=Qh hst;have hz:=hu.size;clear hv hst bo
   go_wp2_with fail
   refine(hof.out).mono ?_;rintro e w1 ⟨rfl,hu1⟩;have uV:=hu1.alloc (.cells #[.int .i64 v.tx,.int .i64 v.key,.int .i64 v.nth] 28);have bv:=Blk.new w1 28 [.int .i64 v.tx,.int .i64 v.key,.int .i64 v.nth];have bo1:=BO.out.upd uV id;have bT1:=((bT.out.upd hu id).upd uA id).upd uV id;have HO:=Zc ((Zc hown.out uA (fun _ _=>id))) uV (fun _ _=>id);have HU:=Qh ((hu.trans uA).trans uV);have k0:=bo1.cell 0;have k2:=bo1.cell 2;have t0:=bT1.cell 0;have hz1:=(uA.trans uV).size;simp only[Qz,Qs,World.size_alloc]at k0 k2 t0 hz1 hz;have hin:=fun W (hW:Upd No (w1.alloc (.cells #[.int .i64 v.tx,.int .i64 v.key,.int .i64 v.nth] 28)) W)=>ZnU _ W A3 c3 xs v ((Zev HO).upd hW (fun _ _=>id)) (by omega)
   have HIN:=Qh hin;have HO':=Qh HO;have CV:∀W,Upd No (w1.alloc (.cells #[.int .i64 v.tx,.int .i64 v.key,.int .i64 v.nth] 28)) W→W.cell? ⟨w1.heap.size,0,none⟩=some (.int .i64 v.tx)∧W.cell? ⟨w1.heap.size,1,none⟩=some (.int .i64 v.key)∧W.cell? ⟨w1.heap.size,2,none⟩=some (.int .i64 v.nth):=fun W hW=>⟨(bv.upd hW id).cell 0,(bv.upd hW id).cell 1,(bv.upd hW id).cell 2⟩
   have HCV:=Qh CV;clear CV uV uA hu1 bv bo1 bT1 hin HO
   cases hr:x.read
   ·have HV:=Qh (show Zr i0 xs (l.drop (k+1))=Zr i0 [] l by rw[←HST.out];unfold ZaA;rw[hr];simp);rw[hr]at k0;clear hr;go_wp2
    go_roundg (gk-1)
    case measure=>omega
    case rel=>exact⟨k+1,A3,c3,xs,by omega,by go_num,rfl,HV,by omega,HO',HU.out⟩
   ·rw[hr]at k0
    by_cases h0:x.tx=0
    ·have HV:=Qh (show Zr i0 xs (l.drop (k+1))=Zr i0 [] l by rw[←HST.out];unfold ZaA;rw[h0];simp);have h0b:(x.tx != 0)=false:=by rw[h0];rfl
     clear hr h0;go_wp2
     go_roundg (gk-1)
     case measure=>omega
     case rel=>exact⟨k+1,A3,c3,xs,by omega,by go_num,rfl,HV,by omega,HO',HU.out⟩
    ·have h0b:(x.tx != 0)=true:=by rw[bne_iff_ne];exact h0
     by_cases h1:x.tx=i0
     ·have HV:=Qh (show Zr i0 xs (l.drop (k+1))=Zr i0 [] l by rw[←HST.out];unfold ZaA;rw[h1];simp);have h1b:(x.tx != i0)=false:=by rw[h1];simp
      clear hr h0 h1;go_wp2
      go_roundg (gk-1)
      case measure=>omega
      case rel=>exact⟨k+1,A3,c3,xs,by omega,by go_num,rfl,HV,by omega,HO',HU.out⟩
     ·have h1b:(x.tx != i0)=true:=by rw[bne_iff_ne];exact h1
      have hq:ZaA i0 x=true:=by unfold ZaA;rw[hr];simp[h0,h1]
      have HV:=Qh (show Zr i0 (if !xs.contains v then xs++[v] else xs) (l.drop (k+1))=Zr i0 [] l by rw[←HST.out,hq];rfl);have v0:=(HCV.out _ (Upd.refl _ _)).1;have v1:=(HCV.out _ (Upd.refl _ _)).2.1;have v2:=(HCV.out _ (Upd.refl _ _)).2.2;clear hr h0 h1 hq
      go_wp2_with fail
      refine(HIN.out _ (Upd.refl _ _)).mono ?_;rintro e w2 ⟨rfl,hu2⟩;have HU2:=Qh (HU.out.trans hu2);have hown3:=Zc HO'.out hu2 (fun _ _=>id);have hz2:=hu2.size;simp only[World.size_alloc]at hz2;have v0':=(HCV.out _ hu2).1;have v1':=(HCV.out _ hu2).2.1;have v2':=(HCV.out _ hu2).2.2;clear hu2 v0 v1 v2
      cases hc:xs.contains v
      ·have HV2:=Qh (show Zr i0 (xs++[v]) (l.drop (k+1))=Zr i0 [] l by rw[←HV.out,hc];rfl);clear hc
       go_wp2_with (at_builtin;refine ZS rfl rfl Zjb (v:= .slice A3 xs.length c3) (cells:=[.int .i64 v.tx,.int .i64 v.key,.int .i64 v.nth]) (by rfl) rfl hown3 rfl rfl (by omega) (by omega) (by omega) ?_;intro g' c' w4 hown4 hu4 hg4 hlt4)
       go_roundg (gk-1)
       case measure=>omega
       case rel=>exact⟨k+1,some ⟨g',0,none⟩,c',xs++[v],by omega,by go_num,by simp,HV2,by simp;omega,Qh (by simpa[Ver.cells]using hown4),HU2.out.then_ hu4 fun i e=> .inr (by have:=(hown3.lt i e).1;simp only[World.size_alloc];omega)⟩
      ·have HV2:=Qh (show Zr i0 xs (l.drop (k+1))=Zr i0 [] l by rw[←HV.out,hc];rfl);clear hc;go_wp2
       go_roundg (gk-1)
       case measure=>omega
       case rel=>exact⟨k+1,A3,c3,xs,by omega,by go_num,rfl,HV2,by omega,Qh hown3,HU2.out⟩
  ·obtain rfl:k=l.length:=by omega
   have HV:=Qh (show xs=Zr i0 [] l by rw[←hs.out,List.drop_length];rfl);go_wp2
   go_ret
   exact⟨A3,c3,by rw[←HV.out];rfl,by rw[←HV.out];exact Z1 hown.out (by omega),uT.trans hu⟩
end
end Go.Proofs.Ytdbjokfejmgepaa
