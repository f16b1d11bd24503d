/- Maps by a key and a number, and by versions. -/
import Derived.Test.YtfcefnpnomlgbaaProg
import Derived.Test.YtfcefnpnomlgbaaMal
import Derived.Test.YtfcefnpnomlgbaaMan
namespace Go.Proofs.Ytfcefnpnomlgbaa
set_option linter.unusedSimpArgs false
set_option linter.unusedVariables false
open Go.RowKit
def WrM (m:List ((Int×Int)×Value)) (l:List HOp) (k:Nat):Prop:=
 ∀key n:Int,(Zaq m (key,n)).getD (.int .i64 0)= .int .i64 (if n=0 then (wrN l key k:Int) else if 1≤n∧n≤(wrN l key k:Int) then 1 else 0)
theorem WrM.nil (l:List HOp):WrM [] l 0:=fun key n=>by
 rw[Zfj]
 have:wrN l key 0=0:=rfl
 rw[this]
 by_cases h:n=0
 ·rw[if_pos h];rfl
 ·rw[if_neg h,if_neg (by omega)];rfl
theorem WrM.skip {m:List ((Int×Int)×Value)} {l:List HOp} {k:Nat} (h:WrM m l k) (hk:k<l.length) (hr:l[k].read=true):WrM m l (k+1):=fun key n=>by
 rw[Zer hk rfl (by unfold isW;rw[hr];rfl)]
 exact h key n
theorem WrM.put {m:List ((Int×Int)×Value)} {l:List HOp} {k:Nat} {x:HOp} (h:WrM m l k) (hk:k<l.length) (hx:l[k]=x) (hr:x.read=false):
  WrM (ZaT (ZaT m (x.key,0) (.int .i64 ((wrN l x.key k:Int)+1))) (x.key,(wrN l x.key k:Int)+1) (.int .i64 1)) l (k+1):=fun key n=>by
 subst hx
 by_cases hkey:key=l[k].key
 ·subst hkey
  rw[ZfN hk rfl (by unfold isW;rw[hr];simp)]
  by_cases h0:n=0
  ·subst h0
   rw[Z5 _ _ (fun e=>by injection e with _ e;omega),Za0,if_pos rfl]
   rfl
  ·rw[if_neg h0]
   by_cases h1:n=(wrN l l[k].key k:Int)+1
   ·rw[h1,Za0,if_pos (by omega)]
    rfl
   ·rw[Z5 _ _ (fun e=>by injection e with _ e;exact h1 e),Z5 _ _ (fun e=>by injection e with _ e;exact h0 e),h l[k].key n,if_neg h0]
    by_cases h2:1≤n∧n≤(wrN l l[k].key k:Int)
    ·rw[if_pos h2,if_pos (by omega)]
    ·rw[if_neg h2,if_neg (by omega)]
 ·rw[Z5 _ _ (fun e=>by injection e with e _;exact hkey e),Z5 _ _ (fun e=>by injection e with e _;exact hkey e),h key n,
   Zer hk rfl (by
    unfold isW
    have:(l[k].key==key)=false:=by rw[beq_eq_false_iff_ne];exact fun e=>hkey e.symm
    rw[this];simp)]
end Go.Proofs.Ytfcefnpnomlgbaa
