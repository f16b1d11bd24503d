/- Maps that the calls themselves make: what is got Zav a put; keys that are structs. -/
import Derived.Laws.StructEq
import Derived.Test.YtklmahmfmbppkaaGreatProg
import Derived.Test.YtklmahmfmbppkaaGreatMaj
import Derived.Test.YtklmahmfmbppkaaGreatMao
namespace Go.Proofs.YtklmahmfmbppkaaGreat
set_option linter.unusedSimpArgs false
set_option linter.unusedVariables false
open Go.RowKit
section
variable {α:Type} [DecidableEq α]
theorem Zj6 (a b:α) (v:Value):∀(m:List (α×Value)) (i:Nat),look a m i=none→(look b (m++[(a,v)]) i).map (·.2)=if b=a then some v else (look b m i).map (·.2)
 |[],i,_=>by
  by_cases h:b=a<;>simp[look,h]
 |p::m,i,h=>by
  unfold look at h
  split at h
  ·cases h
  ·rename_i hne
   have ih:=Zj6 a b v m (i+1) h
   simp only[List.cons_append,look]
   by_cases hb:b=p.1
   ·rw[if_pos hb,if_pos hb,if_neg (by rw[hb];exact fun e=>hne e.symm)]
   ·rw[if_neg hb,if_neg hb]
    exact ih
theorem Zj5 (a b:α) (v:Value):∀(m:List (α×Value)) (i:Nat) (r:Nat×Value),look a m i=some r→(look b (m.modify (r.1-i) fun p=>(p.1,v)) i).map (·.2)=if b=a then some v else (look b m i).map (·.2)
 |[],i,r,h=>by simp[look]at h
 |p::m,i,r,h=>by
  have hl:=Zdm a (p::m) i r h
  unfold look at h
  split at h
  ·rename_i hab
   cases h
   simp only[Nat.sub_self,List.modify_zero_cons,look]
   by_cases hb:b=a
   ·rw[if_pos (by rw[hb,hab]),if_pos hb]
    rfl
   ·rw[if_neg (by rw[←hab];exact hb),if_neg hb,if_neg (by rw[←hab];exact hb)]
  ·rename_i hne
   have h1:=(Zdm a m (i+1) r h).1
   have ih:=Zj5 a b v m (i+1) r h
   rw[show r.1-i=(r.1-(i+1))+1 by omega,List.modify_succ_cons]
   simp only[look]
   by_cases hb:b=p.1
   ·rw[if_pos hb,if_pos hb,if_neg (by rw[hb];exact fun e=>hne e.symm)]
   ·rw[if_neg hb,if_neg hb]
    exact ih
theorem ZbO (m:List (α×Value)) (a b:α) (v:Value):ZE (Zq m a v) b=if b=a then some v else ZE m b:=by
 unfold ZE Zq
 cases h:look a m 0 with
 |none=>exact Zj6 a b v m 0 h
 |some r=>
  have:=Zj5 a b v m 0 r h
  rw[Nat.sub_zero]at this
  exact this
theorem Z2 (m:List (α×Value)) (a:α) (v:Value):ZE (Zq m a v) a=some v:=by rw[ZbO,if_pos rfl]
theorem Zam (m:List (α×Value)) {a b:α} (v:Value) (h:b≠a):ZE (Zq m a v) b=ZE m b:=by rw[ZbO,if_neg h]
theorem ZcK (a:α):ZE ([]:List (α×Value)) a=none:=rfl
end
theorem KeyBy.agg_ {α:Type} [DecidableEq α] {P:Program} {kt:TypeId} {enc:α→Value} {fs:Array Field} (ht:P.underlying kt=some (.struct fs)) (hagg:∀a,∃cs,enc a= .agg cs)
  (hc:∀(w:World) (e:Bool) (a:α),(Instr.checkKey e 10000 kt (enc a)).run P w= .ok () w) (hb:∀a,Instr.sameBits 10000 (enc a) (enc a)=true)
  (heq:∀(w:World) (x y:α),(Op.equal kt (enc x) (enc y)).run P w= .ok (decide (x=y)) w):KeyBy P kt enc:=by
 refine⟨hc,hb,fun w a es m h=> ?_⟩
 have h2:=Zeg (a:=a) (enc:=enc) heq w es m 0 h
 unfold Instr.findKey
 obtain⟨cs,ha⟩:=hagg a
 cases es with
 |nil=>
  cases m with
  |nil=>simp[run_underlying ht,Instr.findNow,look]
  |cons p m=>simp at h
 |cons e es=>
  have hn:Instr.findNow (.struct fs) (enc a) (e::es) 0=none:=by
   unfold Instr.findNow
   rw[ha]
   simp[Instr.sameNow]
  simp[run_underlying ht,hn,h2]
end Go.Proofs.YtklmahmfmbppkaaGreat
/- Maps by a key and a number,and by versions. -/
namespace Go.Proofs.YtklmahmfmbppkaaGreat
set_option linter.unusedSimpArgs false
set_option linter.unusedVariables false
open Go.RowKit
def Zct (p:Int×Int):Value:= .agg #[.int .i64 p.1,.int .i64 p.2]
def Zd2 (v:Ver):Value:= .agg #[.int .i64 v.tx,.int .i64 v.key,.int .i64 v.nth]
theorem ZpY (w:World) (x y:Int×Int):(Op.equal 232 (Zct x) (Zct y)).run Tryz.prog w= .ok (decide (x=y)) w:=by
 obtain⟨a,b⟩:=x
 obtain⟨a',b'⟩:=y
 unfold Zct
 show(Op.equalIn 10000 _ _ _).run _ w=_
 rw[run_equalIn_struct w _ _ _ _ (by kernel_rfl) (by kernel_rfl)]
 have hI:∀(w:World) (d:Nat) (x y:Int),(Op.equalIn (d+1) 3 (.int .i64 x) (.int .i64 y)).run Tryz.prog w= .ok (x==y) w:=fun w d x y=>run_equalIn_int w d _ _ _ x y Tryz.underlying3
 by_cases h1:a=a'<;>by_cases h2:b=b'<;>
  simp[Program.fieldsOf,Tryz.underlying232,Op.eqFields,part,hI,h1,h2,Result.andThen]
theorem ZmB (w:World) (x y:Ver):(Op.equalIn 10000 116 (Zd2 x) (Zd2 y)).run Tryz.prog w= .ok (decide (x=y)) w:=by
 obtain⟨a,b,c⟩:=x
 obtain⟨a',b',c'⟩:=y
 unfold Zd2
 rw[run_equalIn_struct w _ _ _ _ (by kernel_rfl) (by kernel_rfl)]
 have hI:∀(w:World) (d:Nat) (x y:Int),(Op.equalIn (d+1) 3 (.int .i64 x) (.int .i64 y)).run Tryz.prog w= .ok (x==y) w:=fun w d x y=>run_equalIn_int w d _ _ _ x y Tryz.underlying3
 by_cases h1:a=a'<;>by_cases h2:b=b'<;>by_cases h3:c=c'<;>
  simp[Program.fieldsOf,Tryz.underlying116,Op.eqFields,part,hI,h1,h2,h3,Result.andThen]
theorem ZlF (w:World) (e:Bool) (p:Int×Int):(Instr.checkKey e 10000 232 (Zct p)).run Tryz.prog w= .ok () w:=by
 show(Instr.checkKey e (9998+1+1) _ _).run _ w=_
 generalize 9998=d
 have hI:∀(w:World) (x:Int),(Instr.checkKey e (d+1) 3 (.int .i64 x)).run Tryz.prog w= .ok () w:=fun w x=>by unfold Instr.checkKey;simp[run_underlying Tryz.underlying3]
 unfold Instr.checkKey Zct
 simp[run_underlying Tryz.underlying232,←Array.forIn_toList,part,hI,Result.andThen]
theorem ZmC (w:World) (e:Bool) (p:Ver):(Instr.checkKey e 10000 116 (Zd2 p)).run Tryz.prog w= .ok () w:=by
 show(Instr.checkKey e (9998+1+1) _ _).run _ w=_
 generalize 9998=d
 have hI:∀(w:World) (x:Int),(Instr.checkKey e (d+1) 3 (.int .i64 x)).run Tryz.prog w= .ok () w:=fun w x=>by unfold Instr.checkKey;simp[run_underlying Tryz.underlying3]
 unfold Instr.checkKey Zd2
 simp[run_underlying Tryz.underlying116,←Array.forIn_toList,part,hI,Result.andThen]
theorem Zdn:KeyBy Tryz.prog 232 Zct:=KeyBy.agg_ Tryz.underlying232 (fun a=>⟨_,rfl⟩) ZlF (fun a=>by simp[Zct,Instr.sameBits]) ZpY
theorem Zhr:KeyBy Tryz.prog 116 Zd2:=KeyBy.agg_ Tryz.underlying116 (fun a=>⟨_,rfl⟩) ZmC (fun a=>by simp[Zd2,Instr.sameBits]) ZmB
theorem Zc7 (w:World):(zeroValue 3).run Tryz.prog w= .ok (.int .i64 0) w:=by kernel_rfl
def Za8 (id:Int) (l:List HOp) (k:Nat):Int:=
 match l[k]? with
 |none=>0
 |some o=>if opB o=false then 1 else if o.read&&o.tx==id&& !decide (o.nth≤(wrN l o.key k:Int)) then 6 else 0
def Zak (id:Int) (l:List HOp):Nat→Int
 |0=>0
 |k+1=>if Zak id l k=0 then Za8 id l k else Zak id l k
def Zay (id:Int) (l:List HOp):Int:=if idB id=false then 1 else if 4095<l.length then 9 else Zak id l l.length
def WrM (m:List ((Int×Int)×Value)) (l:List HOp) (k:Nat):Prop:=
 ∀key n:Int,(ZE m (key,n)).getD (.int .i64 0)= .int .i64 (if n=0 then (wrN l key k:Int) else if 1≤n∧n≤(wrN l key k:Int) then 1 else 0)
theorem WrM.nil (l:List HOp):WrM [] l 0:=fun key n=>by
 rw[ZcK]
 have:wrN l key 0=0:=rfl
 rw[this]
 by_cases h:n=0
 ·rw[if_pos h];rfl
 ·rw[if_neg h,if_neg (by omega)];rfl
theorem WrM.skip {m:List ((Int×Int)×Value)} {l:List HOp} {k:Nat} (h:WrM m l k) (hk:k<l.length) (hr:l[k].read=true):WrM m l (k+1):=fun key n=>by
 rw[ZgN hk rfl (by unfold isW;rw[hr];rfl)]
 exact h key n
theorem WrM.put {m:List ((Int×Int)×Value)} {l:List HOp} {k:Nat} {x:HOp} (h:WrM m l k) (hk:k<l.length) (hx:l[k]=x) (hr:x.read=false):
  WrM (Zq (Zq m (x.key,0) (.int .i64 ((wrN l x.key k:Int)+1))) (x.key,(wrN l x.key k:Int)+1) (.int .i64 1)) l (k+1):=fun key n=>by
 subst hx
 by_cases hkey:key=l[k].key
 ·subst hkey
  rw[ZkV hk rfl (by unfold isW;rw[hr];simp)]
  by_cases h0:n=0
  ·subst h0
   rw[Zam _ _ (fun e=>by injection e with _ e;omega),Z2,if_pos rfl]
   rfl
  ·rw[if_neg h0]
   by_cases h1:n=(wrN l l[k].key k:Int)+1
   ·rw[h1,Z2,if_pos (by omega)]
    rfl
   ·rw[Zam _ _ (fun e=>by injection e with _ e;exact h1 e),Zam _ _ (fun e=>by injection e with _ e;exact h0 e),h l[k].key n,if_neg h0]
    by_cases h2:1≤n∧n≤(wrN l l[k].key k:Int)
    ·rw[if_pos h2,if_pos (by omega)]
    ·rw[if_neg h2,if_neg (by omega)]
 ·rw[Zam _ _ (fun e=>by injection e with e _;exact hkey e),Zam _ _ (fun e=>by injection e with e _;exact hkey e),h key n,
   ZgN hk rfl (by
    unfold isW
    have:(l[k].key==key)=false:=by rw[beq_eq_false_iff_ne];exact fun e=>hkey e.symm
    rw[this];simp)]
end Go.Proofs.YtklmahmfmbppkaaGreat
