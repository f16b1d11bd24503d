/- Maps by a key and a number, and by versions. -/
import Derived.Test.YticmndpiehinjaaGreatProg
import Derived.IntWalk
import Derived.Test.YticmndpiehinjaaGreatMai
import Derived.Test.YticmndpiehinjaaGreatMak
import Derived.Test.YticmndpiehinjaaGreatMan
namespace Go.Proofs.YticmndpiehinjaaGreat
set_option linter.unusedVariables false
set_option linter.unusedSimpArgs false
section
open Go.RowKit
def ZcT (p:Int×Int):Value:= .agg #[.int .i64 p.1,.int .i64 p.2]
def ZcP (v:Ver):Value:= .agg #[.int .i64 v.tx,.int .i64 v.key,.int .i64 v.nth]
theorem Zql (w:World) (x y:Int×Int):(Op.equal 199 (ZcT x) (ZcT y)).run Tryz.prog w= .ok (decide (x=y)) w:=by
 obtain⟨a,b⟩:=x;obtain⟨a',b'⟩:=y;unfold ZcT
 show(Op.equalIn 10000 _ _ _).run _ w=_
 rw[run_equalIn_struct w _ _ _ _ (by kernel_rfl) (by kernel_rfl)];have hI:∀(w:World) (d:Nat) (x y:Int),(Op.equalIn (d+1) 3 (.int .i64 x) (.int .i64 y)).run Tryz.prog w= .ok (x==y) w:=fun w d x y=>run_equalIn_int w d _ _ _ x y Tryz.underlying3
 by_cases h1:a=a'<;>by_cases h2:b=b'<;>
  simp[Program.fieldsOf,Tryz.underlying199,Op.eqFields,part,hI,h1,h2,Result.andThen]
theorem ZiI (w:World) (x y:Ver):(Op.equalIn 10000 28 (ZcP x) (ZcP y)).run Tryz.prog w= .ok (decide (x=y)) w:=by
 obtain⟨a,b,c⟩:=x;obtain⟨a',b',c'⟩:=y;unfold ZcP;rw[run_equalIn_struct w _ _ _ _ (by kernel_rfl) (by kernel_rfl)];have hI:∀(w:World) (d:Nat) (x y:Int),(Op.equalIn (d+1) 3 (.int .i64 x) (.int .i64 y)).run Tryz.prog w= .ok (x==y) w:=fun w d x y=>run_equalIn_int w d _ _ _ x y Tryz.underlying3
 by_cases h1:a=a'<;>by_cases h2:b=b'<;>by_cases h3:c=c'<;>
  simp[Program.fieldsOf,Tryz.underlying28,Op.eqFields,part,hI,h1,h2,h3,Result.andThen]
theorem ZlX (w:World) (e:Bool) (p:Int×Int):(Instr.checkKey e 10000 199 (ZcT p)).run Tryz.prog w= .ok () w:=by
 show(Instr.checkKey e (9998+1+1) _ _).run _ w=_
 generalize 9998=d
 have hI:∀(w:World) (x:Int),(Instr.checkKey e (d+1) 3 (.int .i64 x)).run Tryz.prog w= .ok () w:=fun w x=>by unfold Instr.checkKey;simp[run_underlying Tryz.underlying3]
 unfold Instr.checkKey ZcT;simp[run_underlying Tryz.underlying199,←Array.forIn_toList,part,hI,Result.andThen]
theorem ZmV (w:World) (e:Bool) (p:Ver):(Instr.checkKey e 10000 28 (ZcP p)).run Tryz.prog w= .ok () w:=by
 show(Instr.checkKey e (9998+1+1) _ _).run _ w=_
 generalize 9998=d
 have hI:∀(w:World) (x:Int),(Instr.checkKey e (d+1) 3 (.int .i64 x)).run Tryz.prog w= .ok () w:=fun w x=>by unfold Instr.checkKey;simp[run_underlying Tryz.underlying3]
 unfold Instr.checkKey ZcP;simp[run_underlying Tryz.underlying28,←Array.forIn_toList,part,hI,Result.andThen]
theorem ZdV:KeyBy Tryz.prog 199 ZcT:=KeyBy.agg_ Tryz.underlying199 (fun a=>⟨_,rfl⟩) ZlX (fun a=>by simp[ZcT,Instr.sameBits]) Zql
theorem ZhT:KeyBy Tryz.prog 28 ZcP:=KeyBy.agg_ Tryz.underlying28 (fun a=>⟨_,rfl⟩) ZmV (fun a=>by simp[ZcP,Instr.sameBits]) ZiI
theorem ZdE (w:World):(zeroValue 3).run Tryz.prog w= .ok (.int .i64 0) w:=by kernel_rfl
def ZaT (id:Int) (l:List HOp) (k:Nat):Int:=
 match l[k]? with
 |none=>0
 |some o=>if opB o=false then 1 else if o.read&&o.tx==id&& !decide (o.nth≤(wrN l o.key k:Int)) then 6 else 0
def ZK (id:Int) (l:List HOp):Nat→Int
 |0=>0
 |k+1=>if ZK id l k=0 then ZaT id l k else ZK id l k
def Z1 (id:Int) (l:List HOp):Int:=if idB id=false then 1 else if 4095<l.length then 9 else ZK id l l.length
def WrM (m:List ((Int×Int)×Value)) (l:List HOp) (k:Nat):Prop:=
 ∀key n:Int,(Z3 m (key,n)).getD (.int .i64 0)= .int .i64 (if n=0 then (wrN l key k:Int) else if 1≤n∧n≤(wrN l key k:Int) then 1 else 0)
theorem WrM.nil (l:List HOp):WrM [] l 0:=fun key n=>by
 rw[Zdc];have:wrN l key 0=0:=rfl;rw[this]
 by_cases h:n=0
 ·rw[if_pos h];rfl
 ·rw[if_neg h,if_neg (by omega)];rfl
theorem WrM.skip {m:List ((Int×Int)×Value)} {l:List HOp} {k:Nat} (h:WrM m l k) (hk:k<l.length) (hr:l[k].read=true):WrM m l (k+1):=fun key n=>by
 rw[ZeG hk rfl (by unfold isW;rw[hr];rfl)];exact h key n
theorem WrM.put {m:List ((Int×Int)×Value)} {l:List HOp} {k:Nat} {x:HOp} (h:WrM m l k) (hk:k<l.length) (hx:l[k]=x) (hr:x.read=false):
  WrM (ZD (ZD m (x.key,0) (.int .i64 ((wrN l x.key k:Int)+1))) (x.key,(wrN l x.key k:Int)+1) (.int .i64 1)) l (k+1):=fun key n=>by
 subst hx
 by_cases hkey:key=l[k].key
 ·subst hkey;rw[Zig hk rfl (by unfold isW;rw[hr];simp)]
  by_cases h0:n=0
  ·subst h0;rw[Zaz _ _ (fun e=>by injection e with _ e;omega),Zad,if_pos rfl];rfl
  ·rw[if_neg h0]
   by_cases h1:n=(wrN l l[k].key k:Int)+1
   ·rw[h1,Zad,if_pos (by omega)];rfl
   ·rw[Zaz _ _ (fun e=>by injection e with _ e;exact h1 e),Zaz _ _ (fun e=>by injection e with _ e;exact h0 e),h l[k].key n,if_neg h0]
    by_cases h2:1≤n∧n≤(wrN l l[k].key k:Int)
    ·rw[if_pos h2,if_pos (by omega)]
    ·rw[if_neg h2,if_neg (by omega)]
 ·rw[Zaz _ _ (fun e=>by injection e with e _;exact hkey e),Zaz _ _ (fun e=>by injection e with e _;exact hkey e),h key n,
   ZeG hk rfl (by
    unfold isW;have:(l[k].key==key)=false:=by rw[beq_eq_false_iff_ne];exact fun e=>hkey e.symm
    rw[this];simp)]
end
/- Walks of edges:whether they are closed,and simple;by the program and by the document. -/
section
open Go.RowKit
def okC (l:List Edge) (i:Nat):Bool:=(l[i]?.map (·.t))==(l[(i+1)%l.length]?.map (·.f))
def Zq4 (l:List Edge):Bool:=decide (0<l.length)&&(List.range l.length).all (okC l)
end
/- Walks:simple by the program;the bits of their kinds,by the program and by the document. -/
section
open Go.RowKit
section
variable {α:Type} [DecidableEq α]
theorem Zg5 (a:α):∀(m:List (α×Value)) (i:Nat),look a m i=none↔a∉m.map (·.1)
 |[],i=>by simp[look]
 |p::m,i=>by
  unfold look
  by_cases h:a=p.1
  ·simp[h]
  ·simp only[List.map_cons,List.mem_cons,h,if_false,false_or];exact Zg5 a m (i+1)
theorem Znw (m:List (α×Value)) (a:α) (v:Value):(ZD m a v).map (·.1)=if a∈m.map (·.1) then m.map (·.1) else m.map (·.1)++[a]:=by
 unfold ZD
 cases h:look a m 0 with
 |none=>
  rw[if_neg ((Zg5 a m 0).1 h),List.map_append];rfl
 |some r=>
  rw[if_pos (by
   rcases Classical.em (a∈m.map (·.1))with h'|h'
   ·exact h'
   ·rw[(Zg5 a m 0).2 h']at h;cases h)]
  apply List.ext_getElem?
  intro j;simp only[List.getElem?_map,List.getElem?_modify]
  cases m[j]? with
  |none=>simp
  |some p=>by_cases hj:r.1=j<;>simp[hj]
end
theorem Zd5:KeyBy Tryz.prog 3 (fun n:Int=>Value.int .i64 n):=KeyBy.int_ Tryz.underlying3
def Zsd (a b c:Bool):Int:=(if a then 2 else 0)+(if b then 4 else 0)+(if c then 8 else 0)
def Zph (l:List Edge) (n:Nat) (k:Int):Bool:=(l.take n).any fun e=>e.k==k
def ZrS (l:List Edge):Int:=Zsd (Zph l l.length 1) (Zph l l.length 2) (Zph l l.length 3)
end
/- The document's own small walks over numbers:where one stands,how often,put among rising ones. -/
section
open Go.RowKit
def Zdd (x:Int):List Int→Nat→Int
 |[],_=> -1
 |y::l,k=>if y=x then k else Zdd x l (k+1)
theorem ZfZ (x y:Int) (l:List Int) (k:Nat):Zdd x (y::l) k=if y=x then (k:Int) else Zdd x l (k+1):=rfl
set_option maxRecDepth 100000 in
theorem ZrA (F:Nat→Prop) (w:World) (A:Option Addr) (c:Nat) (l:List Int) (x:Int) (h:Ints F w A l) (hl:l.length≤17592186044415):
  Calls Tryz.prog 118 #[.slice A l.length c,.int .i64 x] w fun e w'=>e= .returned (.int .i64 (Zdd x l 0))∧Upd No w w':=by
 go_enter Tryz.func118,Tryz.ntmps118
 go_wp2
 go_loopg [9] l.length (fun gk i wr=>∃k:Nat,k+gk=l.length∧i= .int .i64 k∧Hid (Zdd x (l.drop k) k=Zdd x l 0)∧Upd No w wr)
 case atStart=>exact⟨0,by omega,rfl,Qh rfl,Upd.refl _ _⟩
 case round=>
  obtain⟨k,hgk,rfl,hs,hu⟩:=hrel
  by_cases hlt:k<l.length
  ·obtain⟨ad,hA,_,_,hc⟩:=(h.upd hu (fun _ _=>id)).at_ hlt;obtain⟨y,hy⟩:∃y,l[k]=y:=⟨_,rfl⟩;rw[hy]at hc;subst hA;have X:=Qh (show l.drop k=y::l.drop (k+1) by rw[←hy];exact List.drop_eq_getElem_cons hlt);clear hy;have b1:(0:Int)≤(k:Int):=Qn _;have b2:(k:Int)<(l.length:Int):=by omega
   by_cases he:y=x
   ·have HV:=Qh (show Zdd x l 0=(k:Int) by rw[←hs.out,X.out,ZfZ,if_pos he]);have heb:(y==x)=true:=by simpa using he
    clear he;go_wp2
    go_ret
    exact⟨by rw[HV.out];rfl,hu⟩
   ·have HV:=Qh (show Zdd x (l.drop (k+1)) (k+1)=Zdd x l 0 by rw[←hs.out,X.out,ZfZ,if_neg he]);have heb:(y==x)=false:=by simpa using he
    clear he;go_wp2
    go_roundg (gk-1)
    case measure=>omega
    case rel=>exact⟨k+1,by omega,by go_num,HV,hu⟩
  ·obtain rfl:k=l.length:=by omega
   have HV:=Qh (show Zdd x l 0= -1 by rw[←hs.out,List.drop_length];rfl);go_wp2
   go_ret
   exact⟨by rw[HV.out];rfl,hu⟩
def Zdh (x:Int):List Int→Nat→Nat
 |[],n=>n
 |y::l,n=>Zdh x l (if x=y then n+1 else n)
theorem ZlL (x:Int):∀(l:List Int) (n:Nat),Zdh x l n=n+l.count x
 |[],n=>by simp[Zdh]
 |y::l,n=>by
  show Zdh x l (if x=y then n+1 else n)=_
  rw[ZlL x l,List.count_cons]
  by_cases e:x=y
  ·subst e;simp;omega
  ·have:(y==x)=false:=by rw[beq_eq_false_iff_ne];exact fun h=>e h.symm
   simp[e,this]
set_option maxRecDepth 100000 in
theorem Zng (F:Nat→Prop) (w:World) (A:Option Addr) (c:Nat) (l:List Int) (x:Int) (h:Ints F w A l) (hl:l.length≤17592186044415):
  Calls Tryz.prog 116 #[.slice A l.length c,.int .i64 x] w fun e w'=>e= .returned (.int .i64 ((l.count x:Nat):Int))∧Upd No w w':=by
 go_enter Tryz.func116,Tryz.ntmps116
 go_wp2
 go_loopg [5,10] l.length (fun gk s i wr=>∃k n:Nat,k+gk=l.length∧i= .int .i64 k∧s= .int .i64 n∧n≤k∧Hid (Zdh x (l.drop k) n=Zdh x l 0)∧Upd No w wr)
 case atStart=>exact⟨0,0,by omega,rfl,rfl,by omega,Qh rfl,Upd.refl _ _⟩
 case round=>
  obtain⟨k,n,hgk,rfl,rfl,hn,hs,hu⟩:=hrel
  by_cases hlt:k<l.length
  ·obtain⟨ad,hA,_,_,hc⟩:=(h.upd hu (fun _ _=>id)).at_ hlt;obtain⟨y,hy⟩:∃y,l[k]=y:=⟨_,rfl⟩;rw[hy]at hc;subst hA;have X:=Qh (show l.drop k=y::l.drop (k+1) by rw[←hy];exact List.drop_eq_getElem_cons hlt);clear hy;have b1:(0:Int)≤(k:Int):=Qn _;have b2:(k:Int)<(l.length:Int):=by omega
   by_cases he:x=y
   ·have HV:=Qh (show Zdh x (l.drop (k+1)) (n+1)=Zdh x l 0 by rw[←hs.out,X.out];show _=Zdh x _ (if x=y then n+1 else n);rw[if_pos he]);have heb:(x==y)=true:=by simpa using he
    clear he;go_wp2
    go_roundg (gk-1)
    case measure=>omega
    case rel=>exact⟨k+1,n+1,by omega,by go_num,by go_num,by omega,HV,hu⟩
   ·have HV:=Qh (show Zdh x (l.drop (k+1)) n=Zdh x l 0 by rw[←hs.out,X.out];show _=Zdh x _ (if x=y then n+1 else n);rw[if_neg he]);have heb:(x==y)=false:=by simpa using he
    clear he;go_wp2
    go_roundg (gk-1)
    case measure=>omega
    case rel=>exact⟨k+1,n,by omega,by go_num,rfl,by omega,HV,hu⟩
  ·obtain rfl:k=l.length:=by omega
   have HV:=Qh (show n=l.count x by have:=hs.out;rw[List.drop_length,ZlL x l 0]at this;simpa[Zdh]using this);go_wp2
   go_ret
   exact⟨by rw[HV.out];rfl,hu⟩
set_option maxRecDepth 100000 in
theorem Zsz (F G:Nat→Prop) (w:World) (A B:Option Addr) (c d:Nat) (l m:List Int) (h:Ints F w A l) (hm:Ints G w B m) (hl:l.length≤17592186044415) (hl2:m.length≤17592186044415):
  Calls Tryz.prog 79 #[.slice A l.length c,.slice B m.length d] w fun e w'=>e= .returned (.bool (l.length==m.length&&l.all fun x=>l.count x==m.count x))∧Upd No w w':=by
 by_cases hlm:l.length=m.length
 ·have hb:((l.length:Int) != (m.length:Int))=false:=by rw[hlm];simp
  have Hlm:=Qh (show(l.length==m.length)=true by simpa using hlm);clear hlm
  go_enter Tryz.func79,Tryz.ntmps79
  go_wp2
  go_loopg [14] l.length (fun gk i wr=>∃k:Nat,k+gk=l.length∧i= .int .i64 k∧Hid ((l.drop k).all (fun x=>l.count x==m.count x)=l.all (fun x=>l.count x==m.count x))∧Upd No w wr)
  case atStart=>exact⟨0,by omega,rfl,Qh rfl,Upd.refl _ _⟩
  case round=>
   obtain⟨k,hgk,rfl,hs,hu⟩:=hrel
   by_cases hlt:k<l.length
   ·obtain⟨ad,hA,_,_,hc⟩:=(h.upd hu (fun _ _=>id)).at_ hlt;obtain⟨y,hy⟩:∃y,l[k]=y:=⟨_,rfl⟩;rw[hy]at hc;subst hA;have X:=Qh (show l.drop k=y::l.drop (k+1) by rw[←hy];exact List.drop_eq_getElem_cons hlt);clear hy;have b1:(0:Int)≤(k:Int):=Qn _;have b2:(k:Int)<(l.length:Int):=by omega
    go_wp2_with fail
    refine(Zng F _ (some ad) c l y (h.upd hu (fun _ _=>id)) hl).mono ?_;rintro e w1 ⟨rfl,hu1⟩
    go_wp2_with fail
    refine(Zng G _ B d m y (hm.upd (hu.trans hu1) (fun _ _=>id)) hl2).mono ?_;rintro e w2 ⟨rfl,hu2⟩;have HU:=Qh ((hu.trans hu1).trans hu2);clear hu1 hu2
    by_cases he:l.count y=m.count y
    ·have heb:(((l.count y:Nat):Int) != ((m.count y:Nat):Int))=false:=by rw[he];simp
     have HV:=Qh (show(l.drop (k+1)).all (fun x=>l.count x==m.count x)=l.all (fun x=>l.count x==m.count x) by rw[←hs.out,X.out,List.all_cons,he];simp);clear he;go_wp2
     go_roundg (gk-1)
     case measure=>omega
     case rel=>exact⟨k+1,by omega,by go_num,HV,HU.out⟩
    ·have heb:(((l.count y:Nat):Int) != ((m.count y:Nat):Int))=true:=by rw[bne_iff_ne];omega
     have HV:=Qh (show l.all (fun x=>l.count x==m.count x)=false by rw[←hs.out,X.out,List.all_cons,beq_eq_false_iff_ne.2 he];simp);clear he;go_wp2
     go_ret
     exact⟨by rw[HV.out,Hlm.out];rfl,HU.out⟩
   ·obtain rfl:k=l.length:=by omega
    have HV:=Qh (show l.all (fun x=>l.count x==m.count x)=true by rw[←hs.out,List.drop_length];rfl);go_wp2
    go_ret
    exact⟨by rw[HV.out,Hlm.out];rfl,hu⟩
 ·have hb:((l.length:Int) != (m.length:Int))=true:=by rw[bne_iff_ne];omega
  have Hlm:=Qh (show(l.length==m.length)=false by simpa using hlm);clear hlm
  go_enter Tryz.func79,Tryz.ntmps79
  go_wp2
  go_ret
  exact⟨by rw[Hlm.out];rfl,Upd.refl _ _⟩
def Zb5 (n:Int) (done:Bool) (out:List Int):List Int→List Int
 |[]=>if done then out else out++[n]
 |x::l=>Zb5 n (done||decide (n≤x)) ((if !done&&decide (n≤x) then out++[n] else out)++(if x=n then [] else [x])) l
def Zf (n:Int):List Int→List Int
 |[]=>[n]
 |x::l=>if n≤x then n::(x::l).filter (fun y=> !(y==n)) else x::Zf n l
theorem Za2 (n a:Int):∀l,a∈Zf n l↔a=n∨a∈l
 |[]=>by simp[Zf]
 |x::l=>by
  have ih:=Za2 n a l;unfold Zf
  split
  ·rw[List.mem_cons,List.mem_filter]
   by_cases h:a=n<;>simp[h]
  ·simp only[List.mem_cons,ih];grind
theorem Zc8 (n:Int):∀l,l.Pairwise (·<·)→(Zf n l).Pairwise (·<·)
 |[],_=>by simp[Zf]
 |x::l,h=>by
  have h':=List.pairwise_cons.1 h;unfold Zf
  split
  ·refine List.pairwise_cons.2 ⟨fun a ha=> ?_,h.filter _⟩;rw[List.mem_filter]at ha;have h1:a≠n:=by simpa using ha.2
   rcases List.mem_cons.1 ha.1 with rfl|h2
   ·omega
   ·have:=h'.1 a h2;omega
  ·refine List.pairwise_cons.2 ⟨fun a ha=> ?_,Zc8 n l h'.2⟩;rcases(Za2 n a l).1 ha with rfl|h2
   ·omega
   ·exact h'.1 a h2
theorem Zo (n:Int) (l:List Int):(Zf n l).length≤l.length+1:=by
 induction l with
 |nil=>simp[Zf]
 |cons x l ih=>
  unfold Zf
  split
  ·have:=List.length_filter_le (fun y=> !(y==n)) (x::l);simp only[List.length_cons]at*;omega
  ·simp only[List.length_cons]at*;omega
def ZS (s:List Int):List Int→List Int
 |[]=>s
 |k::l=>ZS (Zf k s) l
theorem Ze9 (a:Int):∀(l s:List Int),a∈ZS s l↔a∈s∨a∈l
 |[],s=>by simp[ZS]
 |k::l,s=>by
  have ih:=Ze9 a l (Zf k s);rw[Za2]at ih
  show a∈ZS (Zf k s) l↔_
  rw[ih,List.mem_cons];grind
theorem ZfH:∀(l s:List Int),s.Pairwise (·<·)→(ZS s l).Pairwise (·<·)
 |[],_,h=>h
 |k::l,s,h=>ZfH l _ (Zc8 k s h)
theorem ZhA:∀(l s:List Int),(ZS s l).length≤s.length+l.length
 |[],s=>by simp[ZS]
 |k::l,s=>by
  have:=ZhA l (Zf k s);have:=Zo k s
  show(ZS (Zf k s) l).length≤_
  simp only[List.length_cons];omega
theorem ZiR (n:Int):∀(l out:List Int),Zb5 n true out l=out++l.filter fun y=> !(y==n)
 |[],out=>by simp[Zb5]
 |x::l,out=>by
  show Zb5 n true ((if !true&&decide (n≤x) then out++[n] else out)++(if x=n then [] else [x])) l=_
  rw[ZiR n l]
  by_cases h:x=n
  ·subst h;simp
  ·have:(x==n)=false:=by simpa using h
   simp[h]
theorem Zhy (n:Int):∀(l out:List Int),Zb5 n false out l=out++Zf n l
 |[],out=>by simp[Zb5,Zf]
 |x::l,out=>by
  show Zb5 n (false||decide (n≤x)) ((if !false&&decide (n≤x) then out++[n] else out)++(if x=n then [] else [x])) l=_
  unfold Zf
  by_cases h:n≤x
  ·rw[if_pos h,decide_eq_true h]
   show Zb5 n true ((out++[n])++(if x=n then [] else [x])) l=_
   rw[ZiR]
   by_cases h2:x=n
   ·subst h2;simp
   ·simp[h2]
  ·rw[if_neg h,decide_eq_false h]
   show Zb5 n false (out++(if x=n then [] else [x])) l=_
   rw[if_neg (show¬x=n by omega),Zhy n l];simp
theorem Zqy (n:Int) (l:List Int):Zb5 n false [] l=Zf n l:=by rw[Zhy];rfl
def Zhl (w:World) (l:List Int) (e:Ending) (w':World):Prop:=∃A c,e= .returned (.slice A l.length c)∧w'.ownsRow w.heap.size 3 1 (.slice A l.length c) l.length (l.map (Value.int .i64))∧Upd No w w'
theorem Zcz:SlT Tryz.prog 43 3 1 8:=SlT.mk_ Tryz.underlying43 (z:= .int .i64 0) (by kernel_rfl) rfl (by omega)
set_option maxRecDepth 100000 in
set_option maxHeartbeats 1000000 in
theorem Ztz (F:Nat→Prop) (w:World) (A:Option Addr) (c:Nat) (l:List Int) (n:Int) (h:Ints F w A l) (hl:l.length≤100000000):
  Calls Tryz.prog 117 #[.slice A l.length c,.int .i64 n] w (Zhl w (Zb5 n false [] l)):=by
 go_enter Tryz.func117,Tryz.ntmps117
 go_wp2
 go_loopg [5,6,11] l.length (fun gk s d i wr=>∃(k:Nat) (b:Bool) (A3:Option Addr) (c3:Nat) (xs:List Int),k+gk=l.length∧i= .int .i64 k∧d= .bool b∧s= .slice A3 xs.length c3∧Hid (Zb5 n b xs (l.drop k)=Zb5 n false [] l)∧xs.length≤2*k∧
  wr.ownsRow w.heap.size 3 1 (.slice A3 xs.length c3) xs.length (xs.map (Value.int .i64))∧Upd No w wr)
 case atStart=>exact⟨0,false,none,0,[],by omega,rfl,rfl,rfl,Qh rfl,by simp,World.ownsRow_nil _ _ _ _,Upd.refl _ _⟩
 case round=>
  obtain⟨k,b,A3,c3,xs,hgk,rfl,rfl,rfl,hs,hxl,hown,hu⟩:=hrel
  by_cases hlt:k<l.length
  ·obtain⟨ad,hA,_,_,hc⟩:=(h.upd hu (fun _ _=>id)).at_ hlt;obtain⟨y,hy⟩:∃y,l[k]=y:=⟨_,rfl⟩;rw[hy]at hc;subst hA;have X:=Qh (show l.drop k=y::l.drop (k+1) by rw[←hy];exact List.drop_eq_getElem_cons hlt);clear hy;have b1:(0:Int)≤(k:Int):=Qn _;have b2:(k:Int)<(l.length:Int):=by omega
   have hst:=hs.out;rw[X.out]at hst;have hst:Zb5 n (b||decide (n≤y)) ((if !b&&decide (n≤y) then xs++[n] else xs)++(if y=n then [] else [y])) (l.drop (k+1))=Zb5 n false [] l:=hst;have hz:=hu.size;have hzo:=fun i e=>(hown.lt i e).1
   have HZ:=Qh hzo;clear hzo
   cases b
   ·by_cases hny:n≤y
    ·rw[decide_eq_true hny]at hst;simp only[Bool.not_false,Bool.true_and,if_true,Bool.false_or]at hst
     by_cases hyn:y=n
     ·rw[if_pos hyn,List.append_nil]at hst;have hb:(y != n)=false:=by rw[hyn];simp
      have HS:=Qh hst;clear hst hyn
      go_wp2_with (at_builtin;refine ZX rfl rfl Zcz (v:= .slice A3 xs.length c3) (cells:=[.int .i64 n]) (by rfl) rfl hown rfl rfl (by omega) (by omega) (by omega) ?_;intro g' c' w2 hown2 hu2 hg2 hlt2)
      go_roundg (gk-1)
      case measure=>omega
      case rel=>exact⟨k+1,true,some ⟨g',0,none⟩,c',xs++[n],by omega,by go_num,rfl,by simp,HS,by simp;omega,by simpa using hown2,hu.then_ hu2 fun i e=> .inr (HZ.out i e)⟩
     ·rw[if_neg hyn]at hst;have hb:(y != n)=true:=by rw[bne_iff_ne];exact hyn
      have HS:=Qh hst;clear hst hyn
      go_wp2_with (at_builtin;(first
       |(refine ZX rfl rfl Zcz (v:= .slice A3 xs.length c3) (cells:=[.int .i64 n]) (by rfl) rfl hown rfl rfl (by omega) (by omega) (by omega) ?_;intro g' c' w2 hown2 hu2 hg2 hlt2;have hz2:=hu2.size;have HZ2:=Qh (fun i e=>(hown2.lt i e).1);have HU2:=Qh (hu.then_ hu2 fun i e=> .inr (HZ.out i e));clear hg2 hu2)
       |(refine ZX rfl rfl Zcz (v:= .slice (some ⟨g',0,none⟩) (xs.length+1) c') (cells:=[.int .i64 y]) (by rfl) rfl hown2 rfl rfl (by omega) (by omega) (by omega) ?_;intro g3 c4 w3 hown3 hu3 hg3 hlt3)))
      go_roundg (gk-1)
      case measure=>omega
      case rel=>exact⟨k+1,true,some ⟨g3,0,none⟩,c4,xs++[n]++[y],by omega,by go_num,rfl,by simp,HS,by simp;omega,by simpa using hown3,HU2.out.then_ hu3 fun i e=> .inr (HZ2.out i e)⟩
    ·have hny':¬y≥n:=by omega
     rw[decide_eq_false hny]at hst;simp only[Bool.not_false,Bool.and_false,Bool.or_false]at hst;rw[if_neg (show¬(false=true) by decide),if_neg (show¬y=n by omega)]at hst;have hb:(y != n)=true:=by rw[bne_iff_ne];omega
     have HS:=Qh hst;clear hst
     go_wp2_with (at_builtin;refine ZX rfl rfl Zcz (v:= .slice A3 xs.length c3) (cells:=[.int .i64 y]) (by rfl) rfl hown rfl rfl (by omega) (by omega) (by omega) ?_;intro g' c' w2 hown2 hu2 hg2 hlt2)
     go_roundg (gk-1)
     case measure=>omega
     case rel=>exact⟨k+1,false,some ⟨g',0,none⟩,c',xs++[y],by omega,by go_num,rfl,by simp,HS,by simp;omega,by simpa using hown2,hu.then_ hu2 fun i e=> .inr (HZ.out i e)⟩
   ·simp only[Bool.not_true,Bool.false_and,Bool.true_or]at hst;rw[if_neg (show¬(false=true) by decide)]at hst
    by_cases hyn:y=n
    ·rw[if_pos hyn,List.append_nil]at hst;have hb:(y != n)=false:=by rw[hyn];simp
     have HS:=Qh hst;clear hst hyn;go_wp2
     go_roundg (gk-1)
     case measure=>omega
     case rel=>exact⟨k+1,true,A3,c3,xs,by omega,by go_num,rfl,rfl,HS,by omega,hown,hu⟩
    ·rw[if_neg hyn]at hst;have hb:(y != n)=true:=by rw[bne_iff_ne];exact hyn
     have HS:=Qh hst;clear hst hyn
     go_wp2_with (at_builtin;refine ZX rfl rfl Zcz (v:= .slice A3 xs.length c3) (cells:=[.int .i64 y]) (by rfl) rfl hown rfl rfl (by omega) (by omega) (by omega) ?_;intro g' c' w2 hown2 hu2 hg2 hlt2)
     go_roundg (gk-1)
     case measure=>omega
     case rel=>exact⟨k+1,true,some ⟨g',0,none⟩,c',xs++[y],by omega,by go_num,rfl,by simp,HS,by simp;omega,by simpa using hown2,hu.then_ hu2 fun i e=> .inr (HZ.out i e)⟩
  ·obtain rfl:k=l.length:=by omega
   have hst:=hs.out;rw[List.drop_length]at hst;have hz:=hu.size;have HZ:=Qh (fun i e=>(hown.lt i e).1)
   cases b
   ·have HS:=Qh (show xs++[n]=Zb5 n false [] l from hst);clear hst
    go_wp2_with (at_builtin;refine ZX rfl rfl Zcz (v:= .slice A3 xs.length c3) (cells:=[.int .i64 n]) (by rfl) rfl hown rfl rfl (by omega) (by omega) (by omega) ?_;intro g' c' w2 hown2 hu2 hg2 hlt2)
    go_ret
    refine⟨some ⟨g',0,none⟩,c',?_,?_,hu.then_ hu2 fun i e=> .inr (HZ.out i e)⟩
    ·rw[←HS.out];simp
    ·rw[←HS.out];simpa using hown2
   ·have HS:=Qh (show xs=Zb5 n false [] l from hst);clear hst;go_wp2
    go_ret
    refine⟨A3,c3,?_,?_,hu⟩
    ·rw[←HS.out];rfl
    ·rw[←HS.out];exact hown
theorem ZpN (F:Nat→Prop) (w:World) (A:Option Addr) (c:Nat) (l:List Int) (n:Int) (h:Ints F w A l) (hl:l.length≤100000000):
  Calls Tryz.prog 117 #[.slice A l.length c,.int .i64 n] w (Zhl w (Zf n l)):=by
 rw[←Zqy];exact Ztz F w A c l n h hl
theorem Zj4 (F:Nat→Prop) (w:World) (A:Option Addr) (c:Nat) (l:List Int) (n:Int) (h:Ints F w A l) (hl:l.length≤100000000):
  Calls Tryz.prog 83 #[.slice A l.length c,.int .i64 n] w (Zhl w (Zf n l)):=by
 go_enter Tryz.func83,Tryz.ntmps83
 go_wp2_with fail
 refine(ZpN F _ A c l n h hl).mono ?_;rintro e w1 ⟨A1,c1,rfl,ho1,hu1⟩;go_wp2
 go_ret
 exact⟨A1,c1,rfl,ho1,hu1⟩
end
/- The document on one transaction:keys,needs,right. -/
section
open Go.RowKit
def Zbs (tch:Bool) (s:List Int):List HOp→List Int
 |[]=>s
 |o::l=>Zbs tch (if tch|| !o.read then Zf o.key s else s) l
theorem Zfc (tch:Bool) (s:List Int) (o:HOp) (l:List HOp):Zbs tch s (o::l)=Zbs tch (if tch|| !o.read then Zf o.key s else s) l:=rfl
theorem Zdv {w w':World} {A:Option Addr} {c:Nat} {l:List Int} (h:w'.ownsRow w.heap.size 3 1 (.slice A l.length c) l.length (l.map (Value.int .i64))):Ints (fun i=>w.heap.size≤i) w' A l:=Ints.of_own h
set_option maxRecDepth 100000 in
set_option maxHeartbeats 1000000 in
theorem ZsN (F:Nat→Prop) (w:World) (i0:Int) (dn:Bool) (A:Option Addr) (c:Nat) (l:List HOp) (tch:Bool) (h:HOps F w A l) (hl:l.length≤100000):
  Calls Tryz.prog 115 #[.agg #[.int .i64 i0,.bool dn,.slice A l.length c],.bool tch] w (Zhl w (Zbs tch [] l)):=by
 have uT:=(Upd.refl No w).alloc (.cells #[.int .i64 i0,.bool dn,.slice A l.length c] 42)
 go_enter Tryz.func115,Tryz.ntmps115
 go_wp2
 go_loopg [5,11] l.length (fun gk s i wr=>∃(k:Nat) (A3:Option Addr) (c3:Nat) (xs:List Int),k+gk=l.length∧i= .int .i64 k∧s= .slice A3 xs.length c3∧Hid (Zbs tch xs (l.drop k)=Zbs tch [] l)∧xs.length≤k∧
  Hid (wr.ownsRow w.heap.size 3 1 (.slice A3 xs.length c3) xs.length (xs.map (Value.int .i64)))∧Upd No w wr)
 case atStart=>exact⟨0,none,0,[],by omega,rfl,rfl,Qh rfl,by simp,Qh (World.ownsRow_nil _ _ _ _),uT⟩
 case round=>
  obtain⟨k,A3,c3,xs,hgk,rfl,rfl,hs,hxl,hown,hu⟩:=hrel
  by_cases hlt:k<l.length
  ·obtain⟨ad,hAd,q0,q1,q2,q3⟩:=(h.upd hu (fun _ _=>id)).at_ hlt;obtain⟨x,hx⟩:∃x,l[k]=x:=⟨_,rfl⟩;rw[hx]at q0 q1 q2 q3;subst hAd;have X:=Qh (show l.drop k=x::l.drop (k+1) by rw[←hx];exact List.drop_eq_getElem_cons hlt);have b1:(0:Int)≤(k:Int):=Qn _;have b2:(k:Int)<(l.length:Int):=by omega
   clear hx;have bo:=Blk.new wr 48 [.bool x.read,.int .i64 x.key,.int .i64 x.tx,.int .i64 x.nth];have uA:=(Upd.refl No wr).alloc (.cells #[.bool x.read,.int .i64 x.key,.int .i64 x.tx,.int .i64 x.nth] 48);have HP:=Qh (ZpN _ (wr.alloc (.cells #[.bool x.read,.int .i64 x.key,.int .i64 x.tx,.int .i64 x.nth] 48)) A3 c3 xs x.key ((Zdv hown.out).upd uA (fun _ _=>id)) (by omega));have hst:=hs.out;rw[X.out,Zfc]at hst;have hz:=hu.size
   by_cases hc:(tch|| !x.read)=true
   ·rw[if_pos hc]at hst;have HS:=Qh hst;have hlen:=Zo x.key xs;clear hst
    cases tch
    ·have hr:x.read=false:=by simpa using hc
     rw[hr]at q0 HP uA bo;clear hc hr
     go_wp2_with (go_at_call 117;refine HP.out.mono ?_;rintro e w1 ⟨A4,c4,rfl,ho4,hu4⟩)
     go_roundg (gk-1)
     case measure=>omega
     case rel=>exact⟨k+1,A4,c4,Zf x.key xs,by omega,by go_num,rfl,HS,by omega,Qh (Zx ho4 (by simp;omega)),(hu.trans uA).trans hu4⟩
    ·go_wp2_with (go_at_call 117;refine HP.out.mono ?_;rintro e w1 ⟨A4,c4,rfl,ho4,hu4⟩)
     go_roundg (gk-1)
     case measure=>omega
     case rel=>exact⟨k+1,A4,c4,Zf x.key xs,by omega,by go_num,rfl,HS,by omega,Qh (Zx ho4 (by simp;omega)),(hu.trans uA).trans hu4⟩
   ·rw[if_neg hc]at hst;have HS:=Qh hst;have hc2:tch=false∧x.read=true:=by simpa using hc
    obtain⟨rfl,hr⟩:=hc2;rw[hr]at q0 uA;have HO:=Qh (Za hown.out uA (fun _ _=>id));clear hst hc hr;go_wp2
    go_roundg (gk-1)
    case measure=>omega
    case rel=>exact⟨k+1,A3,c3,xs,by omega,by go_num,rfl,HS,by omega,HO,hu.trans uA⟩
  ·obtain rfl:k=l.length:=by omega
   have HV:=Qh (show xs=Zbs tch [] l by rw[←hs.out,List.drop_length];rfl);go_wp2
   go_ret
   exact⟨A3,c3,by rw[←HV.out];rfl,by rw[←HV.out];exact hown.out,hu⟩
end
/- The document on one transaction:what it needs of others. -/
section
open Go.RowKit
def VersR (F:Nat→Prop) (w:World) (A:Option Addr) (l:List Ver):Prop:=Recs F w A 3 (l.map Ver.cells)
theorem VersR.at_ {F:Nat→Prop} {w:World} {A:Option Addr} {l:List Ver} (h:VersR F w A l) {k:Nat} (hk:k<l.length):∃ad,A=some ad∧
  w.cell? (ad.add (k*3))=some (.int .i64 l[k].tx)∧w.cell? ⟨(ad.add (k*3)).block,(ad.add (k*3)).off+1,none⟩=some (.int .i64 l[k].key)∧
  w.cell? ⟨(ad.add (k*3)).block,(ad.add (k*3)).off+2,none⟩=some (.int .i64 l[k].nth):=by
 have hk':k<(l.map Ver.cells).length:=by simpa using hk
 obtain⟨ad,e,_,_,hc⟩:=Recs.at_ h hk';rw[List.getElem_map]at hc;exact⟨ad,e,by simpa using hc 0 _ rfl,by simpa using hc 1 _ rfl,by simpa using hc 2 _ rfl⟩
theorem VersR.upd {F S:Nat→Prop} {w w':World} {A:Option Addr} {l:List Ver} (h:VersR F w A l) (k:Upd S w w') (hn:∀i,F i→¬S i):VersR F w' A l:=Recs.upd h k hn
theorem ZmU {l:List Ver}:∀r∈l.map Ver.cells,r.length=3:=fun r hr=>by
 obtain⟨e,_,rfl⟩:=List.mem_map.1 hr;rfl
theorem ZmY:SlT Tryz.prog 166 28 3 24:=SlT.mk_ Tryz.underlying166 (z:= .agg #[.int .i64 0,.int .i64 0,.int .i64 0]) (by kernel_rfl) rfl (by omega)
theorem Zqg (w:World) (x y:Ver):(binOp .eql 28 (ZcP x) (ZcP y)).run Tryz.prog w= .ok (.bool (x==y)) w:=by
 have:=ZiI w x y;unfold ZcP at this ⊢;rw[run_eql_struct,this];simp only[Result.andThen]
 by_cases h:x=y<;>simp[h]
theorem ZgC {w':World} {base:Nat} {l:List Ver} {A:Option Addr} {c:Nat} (h:w'.ownsRow base 28 3 (.slice A l.length c) l.length (l.map Ver.cells).flatten):VersR (fun i=>base≤i) w' A l:=by
 have h2:=Recs.of_own (n:=l.length) (c:=c) ZmU (by omega) h;exact Recs.weak h2 fun i _ hi=>(h.lt i hi).1
set_option maxRecDepth 100000 in
set_option maxHeartbeats 1000000 in
theorem ZtG (F:Nat→Prop) (w:World) (A:Option Addr) (c:Nat) (l:List Ver) (v:Ver) (h:VersR F w A l) (hl:l.length≤100000):
  Calls Tryz.prog 148 #[.slice A l.length c,.agg v.cells.toArray] w fun e w'=>e= .returned (.bool (l.contains v))∧Upd No w w':=by
 unfold Ver.cells;have bv:=Qh (Blk.new w 28 [.int .i64 v.tx,.int .i64 v.key,.int .i64 v.nth]);have uT:=(Upd.refl No w).alloc (.cells #[.int .i64 v.tx,.int .i64 v.key,.int .i64 v.nth] 28)
 go_enter Tryz.func148,Tryz.ntmps148
 go_wp2
 go_loopg [9] l.length (fun gk i wr=>∃(k:Nat),k+gk=l.length∧i= .int .i64 k∧Hid ((l.drop k).contains v=l.contains v)∧Upd No (w.alloc (.cells #[.int .i64 v.tx,.int .i64 v.key,.int .i64 v.nth] 28)) wr)
 case atStart=>exact⟨0,by omega,rfl,Qh rfl,Upd.refl _ _⟩
 case round=>
  obtain⟨k,hgk,rfl,hs,hu⟩:=hrel
  by_cases hlt:k<l.length
  ·obtain⟨ad,hAd,q0,q1,q2⟩:=(h.upd (uT.trans hu) (fun _ _=>id)).at_ hlt;obtain⟨x,hx⟩:∃x,l[k]=x:=⟨_,rfl⟩;rw[hx]at q0 q1 q2;subst hAd;have X:=Qh (show l.drop k=x::l.drop (k+1) by rw[←hx];exact List.drop_eq_getElem_cons hlt);have b1:(0:Int)≤(k:Int):=Qn _;have b2:(k:Int)<(l.length:Int):=by omega
   clear hx;have uA:=(Upd.refl No wr).alloc (.cells #[.int .i64 x.tx,.int .i64 x.key,.int .i64 x.nth] 28);have bb:=(bv.out.upd hu id).upd uA id;have v0:=bb.cell 0;have v1:=bb.cell 1;have v2:=bb.cell 2;simp only[Qz,Qs]at v0 v1 v2;have HE:=fun W=>Zqg W x v
   unfold ZcP at HE;have hst:=hs.out;rw[X.out,List.contains_cons]at hst;clear bb
   by_cases hxv:x=v
   ·have HV:=Qh (show l.contains v=true by rw[←hst,hxv];simp);have he:(x==v)=true:=by simpa using hxv
    rw[he]at HE;clear hst hxv he;go_wp2
    go_ret
    exact⟨by rw[HV.out];rfl,(uT.trans hu).trans uA⟩
   ·have he:(x==v)=false:=by simpa using hxv
    have he2:(v==x)=false:=by simpa using fun e=>hxv e.symm
    rw[he2,Bool.false_or]at hst;have HV:=Qh hst;rw[he]at HE;clear hst hxv he he2;go_wp2
    go_roundg (gk-1)
    case measure=>omega
    case rel=>exact⟨k+1,by omega,by go_num,HV,hu.trans uA⟩
  ·obtain rfl:k=l.length:=by omega
   have HV:=Qh (show l.contains v=false by rw[←hs.out,List.drop_length];rfl);go_wp2
   go_ret
   exact⟨by rw[HV.out];rfl,uT.trans hu⟩
def ZbA (id:Int) (o:HOp):Bool:=o.read&& !(o.tx==0)&& !(o.tx==id)
def ZL (id:Int) (acc:List Ver):List HOp→List Ver
 |[]=>acc
 |o::l=>ZL id (if ZbA id o&& !acc.contains (ZF o) then acc++[ZF o] else acc) l
theorem ZeB (id:Int) (acc:List Ver) (o:HOp) (l:List HOp):ZL id acc (o::l)=ZL id (if ZbA id o&& !acc.contains (ZF o) then acc++[ZF o] else acc) l:=rfl
def Zto (w:World) (l:List Ver) (e:Ending) (w':World):Prop:=∃A c,e= .returned (.slice A l.length c)∧w'.ownsRow w.heap.size 28 3 (.slice A l.length c) l.length (l.map Ver.cells).flatten∧Upd No w w'
set_option maxRecDepth 100000 in
set_option maxHeartbeats 1000000 in
theorem ZrI (F:Nat→Prop) (w:World) (i0:Int) (dn:Bool) (A:Option Addr) (c:Nat) (l:List HOp) (h:HOps F w A l) (hl:l.length≤100000):
  Calls Tryz.prog 113 #[.agg #[.int .i64 i0,.bool dn,.slice A l.length c]] w (Zto w (ZL i0 [] l)):=by
 have uT:=(Upd.refl No w).alloc (.cells #[.int .i64 i0,.bool dn,.slice A l.length c] 42);have bT:=Qh (Blk.new w 42 [.int .i64 i0,.bool dn,.slice A l.length c])
 go_enter Tryz.func113,Tryz.ntmps113
 go_wp2
 go_loopg [3,10] l.length (fun gk s i wr=>∃(k:Nat) (A3:Option Addr) (c3:Nat) (xs:List Ver),k+gk=l.length∧i= .int .i64 k∧s= .slice A3 xs.length c3∧Hid (ZL i0 xs (l.drop k)=ZL i0 [] l)∧xs.length≤k∧
  Hid (wr.ownsRow (w.heap.size+1) 28 3 (.slice A3 xs.length c3) xs.length (xs.map Ver.cells).flatten)∧Upd No (w.alloc (.cells #[.int .i64 i0,.bool dn,.slice A l.length c] 42)) wr)
 case atStart=>exact⟨0,none,0,[],by omega,rfl,rfl,Qh rfl,by simp,Qh (World.ownsRow_nil _ _ _ _),Upd.refl _ _⟩
 case round=>
  obtain⟨k,A3,c3,xs,hgk,rfl,rfl,hs,hxl,hown,hu⟩:=hrel
  by_cases hlt:k<l.length
  ·obtain⟨ad,hAd,q0,q1,q2,q3⟩:=(h.upd (uT.trans hu) (fun _ _=>id)).at_ hlt;obtain⟨x,hx⟩:∃x,l[k]=x:=⟨_,rfl⟩;rw[hx]at q0 q1 q2 q3;subst hAd;have X:=Qh (show l.drop k=x::l.drop (k+1) by rw[←hx];exact List.drop_eq_getElem_cons hlt);have b1:(0:Int)≤(k:Int):=Qn _;have b2:(k:Int)<(l.length:Int):=by omega
   clear hx;obtain⟨v,hv⟩:∃v,ZF x=v:=⟨_,rfl⟩;have bo:=Blk.new wr 48 [.bool x.read,.int .i64 x.key,.int .i64 x.tx,.int .i64 x.nth];have uA:=(Upd.refl No wr).alloc (.cells #[.bool x.read,.int .i64 x.key,.int .i64 x.tx,.int .i64 x.nth] 48);have hof:=Qh ((rof (wr.alloc (.cells #[.bool x.read,.int .i64 x.key,.int .i64 x.tx,.int .i64 x.nth] 48)) x).mono (R':=fun e w'=>e= .returned (.agg #[.int .i64 v.tx,.int .i64 v.key,.int .i64 v.nth])∧Upd No (wr.alloc (.cells #[.bool x.read,.int .i64 x.key,.int .i64 x.tx,.int .i64 x.nth] 48)) w') fun e w' h=>by rw[hv]at h;exact h);have BO:=Qh bo;have hst:=hs.out;rw[X.out,ZeB,hv]at hst;have HST:=Qh hst;have hz:=hu.size;clear hv hst bo
   go_wp2_with fail
   refine(hof.out).mono ?_;rintro e w1 ⟨rfl,hu1⟩;have uV:=hu1.alloc (.cells #[.int .i64 v.tx,.int .i64 v.key,.int .i64 v.nth] 28);have bv:=Blk.new w1 28 [.int .i64 v.tx,.int .i64 v.key,.int .i64 v.nth];have bo1:=BO.out.upd uV id;have bT1:=((bT.out.upd hu id).upd uA id).upd uV id;have HO:=Za ((Za hown.out uA (fun _ _=>id))) uV (fun _ _=>id);have HU:=Qh ((hu.trans uA).trans uV);have k0:=bo1.cell 0;have k2:=bo1.cell 2;have t0:=bT1.cell 0;have hz1:=(uA.trans uV).size;simp only[Qz,Qs,World.size_alloc]at k0 k2 t0 hz1 hz;have hin:=fun W (hW:Upd No (w1.alloc (.cells #[.int .i64 v.tx,.int .i64 v.key,.int .i64 v.nth] 28)) W)=>ZtG _ W A3 c3 xs v ((ZgC HO).upd hW (fun _ _=>id)) (by omega)
   have HIN:=Qh hin;have HO':=Qh HO;have CV:∀W,Upd No (w1.alloc (.cells #[.int .i64 v.tx,.int .i64 v.key,.int .i64 v.nth] 28)) W→W.cell? ⟨w1.heap.size,0,none⟩=some (.int .i64 v.tx)∧W.cell? ⟨w1.heap.size,1,none⟩=some (.int .i64 v.key)∧W.cell? ⟨w1.heap.size,2,none⟩=some (.int .i64 v.nth):=fun W hW=>⟨(bv.upd hW id).cell 0,(bv.upd hW id).cell 1,(bv.upd hW id).cell 2⟩
   have HCV:=Qh CV;clear CV uV uA hu1 bv bo1 bT1 hin HO
   cases hr:x.read
   ·have HV:=Qh (show ZL i0 xs (l.drop (k+1))=ZL i0 [] l by rw[←HST.out];unfold ZbA;rw[hr];simp);rw[hr]at k0;clear hr;go_wp2
    go_roundg (gk-1)
    case measure=>omega
    case rel=>exact⟨k+1,A3,c3,xs,by omega,by go_num,rfl,HV,by omega,HO',HU.out⟩
   ·rw[hr]at k0
    by_cases h0:x.tx=0
    ·have HV:=Qh (show ZL i0 xs (l.drop (k+1))=ZL i0 [] l by rw[←HST.out];unfold ZbA;rw[h0];simp);have h0b:(x.tx != 0)=false:=by rw[h0];rfl
     clear hr h0;go_wp2
     go_roundg (gk-1)
     case measure=>omega
     case rel=>exact⟨k+1,A3,c3,xs,by omega,by go_num,rfl,HV,by omega,HO',HU.out⟩
    ·have h0b:(x.tx != 0)=true:=by rw[bne_iff_ne];exact h0
     by_cases h1:x.tx=i0
     ·have HV:=Qh (show ZL i0 xs (l.drop (k+1))=ZL i0 [] l by rw[←HST.out];unfold ZbA;rw[h1];simp);have h1b:(x.tx != i0)=false:=by rw[h1];simp
      clear hr h0 h1;go_wp2
      go_roundg (gk-1)
      case measure=>omega
      case rel=>exact⟨k+1,A3,c3,xs,by omega,by go_num,rfl,HV,by omega,HO',HU.out⟩
     ·have h1b:(x.tx != i0)=true:=by rw[bne_iff_ne];exact h1
      have hq:ZbA i0 x=true:=by unfold ZbA;rw[hr];simp[h0,h1]
      have HV:=Qh (show ZL i0 (if !xs.contains v then xs++[v] else xs) (l.drop (k+1))=ZL i0 [] l by rw[←HST.out,hq];rfl);have v0:=(HCV.out _ (Upd.refl _ _)).1;have v1:=(HCV.out _ (Upd.refl _ _)).2.1;have v2:=(HCV.out _ (Upd.refl _ _)).2.2;clear hr h0 h1 hq
      go_wp2_with fail
      refine(HIN.out _ (Upd.refl _ _)).mono ?_;rintro e w2 ⟨rfl,hu2⟩;have HU2:=Qh (HU.out.trans hu2);have hown3:=Za HO'.out hu2 (fun _ _=>id);have hz2:=hu2.size;simp only[World.size_alloc]at hz2;have v0':=(HCV.out _ hu2).1;have v1':=(HCV.out _ hu2).2.1;have v2':=(HCV.out _ hu2).2.2;clear hu2 v0 v1 v2
      cases hc:xs.contains v
      ·have HV2:=Qh (show ZL i0 (xs++[v]) (l.drop (k+1))=ZL i0 [] l by rw[←HV.out,hc];rfl);clear hc
       go_wp2_with (at_builtin;refine ZX rfl rfl ZmY (v:= .slice A3 xs.length c3) (cells:=[.int .i64 v.tx,.int .i64 v.key,.int .i64 v.nth]) (by rfl) rfl hown3 rfl rfl (by omega) (by omega) (by omega) ?_;intro g' c' w4 hown4 hu4 hg4 hlt4)
       go_roundg (gk-1)
       case measure=>omega
       case rel=>exact⟨k+1,some ⟨g',0,none⟩,c',xs++[v],by omega,by go_num,by simp,HV2,by simp;omega,Qh (by simpa[Ver.cells]using hown4),HU2.out.then_ hu4 fun i e=> .inr (by have:=(hown3.lt i e).1;simp only[World.size_alloc];omega)⟩
      ·have HV2:=Qh (show ZL i0 xs (l.drop (k+1))=ZL i0 [] l by rw[←HV.out,hc];rfl);clear hc;go_wp2
       go_roundg (gk-1)
       case measure=>omega
       case rel=>exact⟨k+1,A3,c3,xs,by omega,by go_num,rfl,HV2,by omega,Qh hown3,HU2.out⟩
  ·obtain rfl:k=l.length:=by omega
   have HV:=Qh (show xs=ZL i0 [] l by rw[←hs.out,List.drop_length];rfl);go_wp2
   go_ret
   exact⟨A3,c3,by rw[←HV.out];rfl,by rw[←HV.out];exact Zx hown.out (by omega),uT.trans hu⟩
end
end Go.Proofs.YticmndpiehinjaaGreat
