/- Maps by a key and a number, and by versions. -/
import Derived.Test.YtblplapkdmhikaaProg
import Derived.Test.YtblplapkdmhikaaDxaj
import Derived.Test.YtblplapkdmhikaaDxak
namespace Go.Proofs.Ytblplapkdmhikaa
set_option linter.unusedVariables false
set_option linter.unusedSimpArgs false
section
open Go.RowKit
def Zam (p:Int×Int):Value:= .agg #[.int .i64 p.1,.int .i64 p.2]
def ZL (v:Ver):Value:= .agg #[.int .i64 v.tx,.int .i64 v.key,.int .i64 v.nth]
theorem ZfU (w:World) (x y:Int×Int):(Op.equal 137 (Zam x) (Zam y)).run Try.prog w= .ok (decide (x=y)) w:=by
 obtain⟨a,b⟩:=x;obtain⟨a',b'⟩:=y;unfold Zam
 show(Op.equalIn 10000 _ _ _).run _ w=_
 rw[run_equalIn_struct w _ _ _ _ (by kernel_rfl) (by kernel_rfl)];have hI:∀(w:World) (d:Nat) (x y:Int),(Op.equalIn (d+1) 3 (.int .i64 x) (.int .i64 y)).run Try.prog w= .ok (x==y) w:=fun w d x y=>run_equalIn_int w d _ _ _ x y Try.underlying3
 by_cases h1:a=a'<;>by_cases h2:b=b'<;>
  simp[Program.fieldsOf,Try.underlying137,Op.eqFields,part,hI,h1,h2,Result.andThen]
theorem ZcG (w:World) (x y:Ver):(Op.equalIn 10000 28 (ZL x) (ZL y)).run Try.prog w= .ok (decide (x=y)) w:=by
 obtain⟨a,b,c⟩:=x;obtain⟨a',b',c'⟩:=y;unfold ZL;rw[run_equalIn_struct w _ _ _ _ (by kernel_rfl) (by kernel_rfl)];have hI:∀(w:World) (d:Nat) (x y:Int),(Op.equalIn (d+1) 3 (.int .i64 x) (.int .i64 y)).run Try.prog w= .ok (x==y) w:=fun w d x y=>run_equalIn_int w d _ _ _ x y Try.underlying3
 by_cases h1:a=a'<;>by_cases h2:b=b'<;>by_cases h3:c=c'<;>
  simp[Program.fieldsOf,Try.underlying28,Op.eqFields,part,hI,h1,h2,h3,Result.andThen]
theorem ZfS (w:World) (x y:Ver):(binOp .neq 28 (ZL x) (ZL y)).run Try.prog w= .ok (.bool (x != y)) w:=by
 have:=ZcG w x y;unfold ZL at this ⊢;rw[run_neq_struct,this];simp only[Result.andThen]
 by_cases h:x=y<;>simp[h]
theorem Zec (w:World) (e:Bool) (p:Int×Int):(Instr.checkKey e 10000 137 (Zam p)).run Try.prog w= .ok () w:=by
 show(Instr.checkKey e (9998+1+1) _ _).run _ w=_
 generalize 9998=d
 have hI:∀(w:World) (x:Int),(Instr.checkKey e (d+1) 3 (.int .i64 x)).run Try.prog w= .ok () w:=fun w x=>by unfold Instr.checkKey;simp[run_underlying Try.underlying3]
 unfold Instr.checkKey Zam;simp[run_underlying Try.underlying137,←Array.forIn_toList,part,hI,Result.andThen]
theorem Zew (w:World) (e:Bool) (p:Ver):(Instr.checkKey e 10000 28 (ZL p)).run Try.prog w= .ok () w:=by
 show(Instr.checkKey e (9998+1+1) _ _).run _ w=_
 generalize 9998=d
 have hI:∀(w:World) (x:Int),(Instr.checkKey e (d+1) 3 (.int .i64 x)).run Try.prog w= .ok () w:=fun w x=>by unfold Instr.checkKey;simp[run_underlying Try.underlying3]
 unfold Instr.checkKey ZL;simp[run_underlying Try.underlying28,←Array.forIn_toList,part,hI,Result.andThen]
theorem ZaR:KeyBy Try.prog 137 Zam:=KeyBy.agg_ Try.underlying137 (fun a=>⟨_,rfl⟩) Zec (fun a=>by simp[Zam,Instr.sameBits]) ZfU
theorem Zaa:KeyBy Try.prog 28 ZL:=KeyBy.agg_ Try.underlying28 (fun a=>⟨_,rfl⟩) Zew (fun a=>by simp[ZL,Instr.sameBits]) ZcG
theorem ZaG (w:World):(zeroValue 3).run Try.prog w= .ok (.int .i64 0) w:=by kernel_rfl
def ZU (id:Int) (l:List HOp) (k:Nat):Int:=
 match l[k]? with
 |none=>0
 |some o=>if opB o=false then 1 else if o.read&&o.tx==id&& !decide (o.nth≤(wrN l o.key k:Int)) then 6 else 0
def ZA (id:Int) (l:List HOp):Nat→Int
 |0=>0
 |k+1=>if ZA id l k=0 then ZU id l k else ZA id l k
def Zn (id:Int) (l:List HOp):Int:=if idB id=false then 1 else if 4095<l.length then 9 else ZA id l l.length
def WrM (m:List ((Int×Int)×Value)) (l:List HOp) (k:Nat):Prop:=
 ∀key n:Int,(Zm m (key,n)).getD (.int .i64 0)= .int .i64 (if n=0 then (wrN l key k:Int) else if 1≤n∧n≤(wrN l key k:Int) then 1 else 0)
theorem WrM.nil (l:List HOp):WrM [] l 0:=fun key n=>by
 rw[Zag];have:wrN l key 0=0:=rfl;rw[this]
 by_cases h:n=0
 ·rw[if_pos h];rfl
 ·rw[if_neg h,if_neg (by omega)];rfl
theorem WrM.skip {m:List ((Int×Int)×Value)} {l:List HOp} {k:Nat} (h:WrM m l k) (hk:k<l.length) (hr:l[k].read=true):WrM m l (k+1):=fun key n=>by
 rw[Zcf hk rfl (by unfold isW;rw[hr];rfl)];exact h key n
theorem WrM.put {m:List ((Int×Int)×Value)} {l:List HOp} {k:Nat} {x:HOp} (h:WrM m l k) (hk:k<l.length) (hx:l[k]=x) (hr:x.read=false):
  WrM (Zu (Zu m (x.key,0) (.int .i64 ((wrN l x.key k:Int)+1))) (x.key,(wrN l x.key k:Int)+1) (.int .i64 1)) l (k+1):=fun key n=>by
 subst hx
 by_cases hkey:key=l[k].key
 ·subst hkey;rw[ZdX hk rfl (by unfold isW;rw[hr];simp)]
  by_cases h0:n=0
  ·subst h0;rw[Zo _ _ (fun e=>by injection e with _ e;omega),Zr,if_pos rfl];rfl
  ·rw[if_neg h0]
   by_cases h1:n=(wrN l l[k].key k:Int)+1
   ·rw[h1,Zr,if_pos (by omega)];rfl
   ·rw[Zo _ _ (fun e=>by injection e with _ e;exact h1 e),Zo _ _ (fun e=>by injection e with _ e;exact h0 e),h l[k].key n,if_neg h0]
    by_cases h2:1≤n∧n≤(wrN l l[k].key k:Int)
    ·rw[if_pos h2,if_pos (by omega)]
    ·rw[if_neg h2,if_neg (by omega)]
 ·rw[Zo _ _ (fun e=>by injection e with e _;exact hkey e),Zo _ _ (fun e=>by injection e with e _;exact hkey e),h key n,
   Zcf hk rfl (by
    unfold isW;have:(l[k].key==key)=false:=by rw[beq_eq_false_iff_ne];exact fun e=>hkey e.symm
    rw[this];simp)]
end
end Go.Proofs.Ytblplapkdmhikaa
