/- Maps that the calls themselves make: what is got Z3 a put; keys that are structs. -/
import Derived.Laws.StructEq
import Derived.Test.YtonblekdfinpkaaGreatProg
import Derived.Test.YtonblekdfinpkaaGreatSxah
import Derived.Test.YtonblekdfinpkaaGreatSxak
namespace Go.Proofs.YtonblekdfinpkaaGreat
set_option linter.unusedVariables false
set_option linter.unusedSimpArgs false
section
open Go.RowKit
section
variable {α:Type} [DecidableEq α]
theorem ZjN (a b:α) (v:Value):∀(m:List (α×Value)) (i:Nat),look a m i=none→(look b (m++[(a,v)]) i).map (·.2)=if b=a then some v else (look b m i).map (·.2)
 |[],i,_=>by
  by_cases h:b=a<;>simp[look,h]
 |p::m,i,h=>by
  unfold look at h
  split at h
  ·cases h
  ·rename_i hne
   have ih:=ZjN a b v m (i+1) h;simp only[List.cons_append,look]
   by_cases hb:b=p.1
   ·rw[if_pos hb,if_pos hb,if_neg (by rw[hb];exact fun e=>hne e.symm)]
   ·rw[if_neg hb,if_neg hb];exact ih
theorem ZjM (a b:α) (v:Value):∀(m:List (α×Value)) (i:Nat) (r:Nat×Value),look a m i=some r→(look b (m.modify (r.1-i) fun p=>(p.1,v)) i).map (·.2)=if b=a then some v else (look b m i).map (·.2)
 |[],i,r,h=>by simp[look]at h
 |p::m,i,r,h=>by
  have hl:=Zdi a (p::m) i r h;unfold look at h
  split at h
  ·rename_i hab
   cases h
   simp only[Nat.sub_self,List.modify_zero_cons,look]
   by_cases hb:b=a
   ·rw[if_pos (by rw[hb,hab]),if_pos hb];rfl
   ·rw[if_neg (by rw[←hab];exact hb),if_neg hb,if_neg (by rw[←hab];exact hb)]
  ·rename_i hne
   have h1:=(Zdi a m (i+1) r h).1;have ih:=ZjM a b v m (i+1) r h;rw[show r.1-i=(r.1-(i+1))+1 by omega,List.modify_succ_cons];simp only[look]
   by_cases hb:b=p.1
   ·rw[if_pos hb,if_pos hb,if_neg (by rw[hb];exact fun e=>hne e.symm)]
   ·rw[if_neg hb,if_neg hb];exact ih
theorem Zad (m:List (α×Value)) (a b:α) (v:Value):Zr (Zk m a v) b=if b=a then some v else Zr m b:=by
 unfold Zr Zk
 cases h:look a m 0 with
 |none=>exact ZjN a b v m 0 h
 |some r=>
  have:=ZjM a b v m 0 r h;rw[Nat.sub_zero]at this;exact this
theorem ZL (m:List (α×Value)) (a:α) (v:Value):Zr (Zk m a v) a=some v:=by rw[Zad,if_pos rfl]
theorem Z8 (m:List (α×Value)) {a b:α} (v:Value) (h:b≠a):Zr (Zk m a v) b=Zr m b:=by rw[Zad,if_neg h]
theorem ZbE (a:α):Zr ([]:List (α×Value)) a=none:=rfl
end
theorem KeyBy.agg_ {α:Type} [DecidableEq α] {P:Program} {kt:TypeId} {enc:α→Value} {fs:Array Field} (ht:P.underlying kt=some (.struct fs)) (hagg:∀a,∃cs,enc a= .agg cs)
  (hc:∀(w:World) (e:Bool) (a:α),(Instr.checkKey e 10000 kt (enc a)).run P w= .ok () w) (hb:∀a,Instr.sameBits 10000 (enc a) (enc a)=true)
  (heq:∀(w:World) (x y:α),(Op.equal kt (enc x) (enc y)).run P w= .ok (decide (x=y)) w):KeyBy P kt enc:=by
 refine⟨hc,hb,fun w a es m h=> ?_⟩;have h2:=Zd4 (a:=a) (enc:=enc) heq w es m 0 h;unfold Instr.findKey;obtain⟨cs,ha⟩:=hagg a
 cases es with
 |nil=>
  cases m with
  |nil=>simp[run_underlying ht,Instr.findNow,look]
  |cons p m=>simp at h
 |cons e es=>
  have hn:Instr.findNow (.struct fs) (enc a) (e::es) 0=none:=by
   unfold Instr.findNow;rw[ha];simp[Instr.sameNow]
  simp[run_underlying ht,hn,h2]
end
/- Maps by a key and a number,and by versions. -/
section
open Go.RowKit
def Zcl (p:Int×Int):Value:= .agg #[.int .i64 p.1,.int .i64 p.2]
def ZaE (v:Ver):Value:= .agg #[.int .i64 v.tx,.int .i64 v.key,.int .i64 v.nth]
theorem ZpQ (w:World) (x y:Int×Int):(Op.equal 224 (Zcl x) (Zcl y)).run Tryz.prog w= .ok (decide (x=y)) w:=by
 obtain⟨a,b⟩:=x;obtain⟨a',b'⟩:=y;unfold Zcl
 show(Op.equalIn 10000 _ _ _).run _ w=_
 rw[run_equalIn_struct w _ _ _ _ (by kernel_rfl) (by kernel_rfl)];have hI:∀(w:World) (d:Nat) (x y:Int),(Op.equalIn (d+1) 3 (.int .i64 x) (.int .i64 y)).run Tryz.prog w= .ok (x==y) w:=fun w d x y=>run_equalIn_int w d _ _ _ x y Tryz.underlying3
 by_cases h1:a=a'<;>by_cases h2:b=b'<;>
  simp[Program.fieldsOf,Tryz.underlying224,Op.eqFields,part,hI,h1,h2,Result.andThen]
theorem ZhZ (w:World) (x y:Ver):(Op.equalIn 10000 36 (ZaE x) (ZaE y)).run Tryz.prog w= .ok (decide (x=y)) w:=by
 obtain⟨a,b,c⟩:=x;obtain⟨a',b',c'⟩:=y;unfold ZaE;rw[run_equalIn_struct w _ _ _ _ (by kernel_rfl) (by kernel_rfl)];have hI:∀(w:World) (d:Nat) (x y:Int),(Op.equalIn (d+1) 3 (.int .i64 x) (.int .i64 y)).run Tryz.prog w= .ok (x==y) w:=fun w d x y=>run_equalIn_int w d _ _ _ x y Tryz.underlying3
 by_cases h1:a=a'<;>by_cases h2:b=b'<;>by_cases h3:c=c'<;>
  simp[Program.fieldsOf,Tryz.underlying36,Op.eqFields,part,hI,h1,h2,h3,Result.andThen]
theorem ZpK (w:World) (x y:Ver):(binOp .neq 36 (ZaE x) (ZaE y)).run Tryz.prog w= .ok (.bool (x != y)) w:=by
 have:=ZhZ w x y;unfold ZaE at this ⊢;rw[run_neq_struct,this];simp only[Result.andThen]
 by_cases h:x=y<;>simp[h]
theorem Zln (w:World) (e:Bool) (p:Int×Int):(Instr.checkKey e 10000 224 (Zcl p)).run Tryz.prog w= .ok () w:=by
 show(Instr.checkKey e (9998+1+1) _ _).run _ w=_
 generalize 9998=d
 have hI:∀(w:World) (x:Int),(Instr.checkKey e (d+1) 3 (.int .i64 x)).run Tryz.prog w= .ok () w:=fun w x=>by unfold Instr.checkKey;simp[run_underlying Tryz.underlying3]
 unfold Instr.checkKey Zcl;simp[run_underlying Tryz.underlying224,←Array.forIn_toList,part,hI,Result.andThen]
theorem Zmq (w:World) (e:Bool) (p:Ver):(Instr.checkKey e 10000 36 (ZaE p)).run Tryz.prog w= .ok () w:=by
 show(Instr.checkKey e (9998+1+1) _ _).run _ w=_
 generalize 9998=d
 have hI:∀(w:World) (x:Int),(Instr.checkKey e (d+1) 3 (.int .i64 x)).run Tryz.prog w= .ok () w:=fun w x=>by unfold Instr.checkKey;simp[run_underlying Tryz.underlying3]
 unfold Instr.checkKey ZaE;simp[run_underlying Tryz.underlying36,←Array.forIn_toList,part,hI,Result.andThen]
theorem Zdj:KeyBy Tryz.prog 224 Zcl:=KeyBy.agg_ Tryz.underlying224 (fun a=>⟨_,rfl⟩) Zln (fun a=>by simp[Zcl,Instr.sameBits]) ZpQ
theorem Zg6:KeyBy Tryz.prog 36 ZaE:=KeyBy.agg_ Tryz.underlying36 (fun a=>⟨_,rfl⟩) Zmq (fun a=>by simp[ZaE,Instr.sameBits]) ZhZ
theorem Zc3 (w:World):(zeroValue 3).run Tryz.prog w= .ok (.int .i64 0) w:=by kernel_rfl
def ZaI (id:Int) (l:List HOp) (k:Nat):Int:=
 match l[k]? with
 |none=>0
 |some o=>if opB o=false then 1 else if o.read&&o.tx==id&& !decide (o.nth≤(wrN l o.key k:Int)) then 6 else 0
def ZV (id:Int) (l:List HOp):Nat→Int
 |0=>0
 |k+1=>if ZV id l k=0 then ZaI id l k else ZV id l k
def Zag (id:Int) (l:List HOp):Int:=if idB id=false then 1 else if 4095<l.length then 9 else ZV id l l.length
def WrM (m:List ((Int×Int)×Value)) (l:List HOp) (k:Nat):Prop:=
 ∀key n:Int,(Zr m (key,n)).getD (.int .i64 0)= .int .i64 (if n=0 then (wrN l key k:Int) else if 1≤n∧n≤(wrN l key k:Int) then 1 else 0)
theorem WrM.nil (l:List HOp):WrM [] l 0:=fun key n=>by
 rw[ZbE];have:wrN l key 0=0:=rfl;rw[this]
 by_cases h:n=0
 ·rw[if_pos h];rfl
 ·rw[if_neg h,if_neg (by omega)];rfl
theorem WrM.skip {m:List ((Int×Int)×Value)} {l:List HOp} {k:Nat} (h:WrM m l k) (hk:k<l.length) (hr:l[k].read=true):WrM m l (k+1):=fun key n=>by
 rw[ZgB hk rfl (by unfold isW;rw[hr];rfl)];exact h key n
theorem WrM.put {m:List ((Int×Int)×Value)} {l:List HOp} {k:Nat} {x:HOp} (h:WrM m l k) (hk:k<l.length) (hx:l[k]=x) (hr:x.read=false):
  WrM (Zk (Zk m (x.key,0) (.int .i64 ((wrN l x.key k:Int)+1))) (x.key,(wrN l x.key k:Int)+1) (.int .i64 1)) l (k+1):=fun key n=>by
 subst hx
 by_cases hkey:key=l[k].key
 ·subst hkey;rw[ZkA hk rfl (by unfold isW;rw[hr];simp)]
  by_cases h0:n=0
  ·subst h0;rw[Z8 _ _ (fun e=>by injection e with _ e;omega),ZL,if_pos rfl];rfl
  ·rw[if_neg h0]
   by_cases h1:n=(wrN l l[k].key k:Int)+1
   ·rw[h1,ZL,if_pos (by omega)];rfl
   ·rw[Z8 _ _ (fun e=>by injection e with _ e;exact h1 e),Z8 _ _ (fun e=>by injection e with _ e;exact h0 e),h l[k].key n,if_neg h0]
    by_cases h2:1≤n∧n≤(wrN l l[k].key k:Int)
    ·rw[if_pos h2,if_pos (by omega)]
    ·rw[if_neg h2,if_neg (by omega)]
 ·rw[Z8 _ _ (fun e=>by injection e with e _;exact hkey e),Z8 _ _ (fun e=>by injection e with e _;exact hkey e),h key n,
   ZgB hk rfl (by
    unfold isW;have:(l[k].key==key)=false:=by rw[beq_eq_false_iff_ne];exact fun e=>hkey e.symm
    rw[this];simp)]
end
end Go.Proofs.YtonblekdfinpkaaGreat
