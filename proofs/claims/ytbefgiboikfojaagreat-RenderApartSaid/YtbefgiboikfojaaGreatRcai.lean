/- Walks of edges: whether they are closed, and simple; by the program and by the document. -/
import Derived.Test.YtbefgiboikfojaaGreatRcae
namespace Go.Proofs.YtbefgiboikfojaaGreat
open Go.RowKit
set_option linter.unusedVariables false
set_option linter.unusedSimpArgs false
set_option maxRecDepth 100000
set_option maxHeartbeats 1000000
def okC(l:List Edge)(i:Nat):Bool:=(l[i]?.map (·.t))==(l[(i+1)%l.length]?.map (·.f))
def ZdR(l:List Edge):Bool:=decide (0<l.length)&&(List.range l.length).all (okC l)
theorem ZpH{l:List Edge}{k m:Nat}{e f:Edge}(hk:l[k]? =some e)(hm:(k+1)%l.length=m)(hf:l[m]? =some f):okC l k=(e.t==f.f):=by
 unfold okC;rw[hk,hm,hf];simp
/- Maps that the calls themselves make:what is got Za7 a put;keys that are structs. -/
section
variable {α:Type} [DecidableEq α]
theorem Zl3(a b:α)(v:Gz):∀(m:List (α×Gz)) (i:Nat),look a m i=none->(look b (m++[(a,v)]) i).map (·.2)=if b=a then some v else (look b m i).map (·.2)
 |[],i,_=>by
  by_cases h:b=a<;>simp[look,h]
 |p::m,i,h=>by
  unfold look at h
  split at h
  ·cases h
  ·rename_i hne
   have ih:=Zl3 a b v m (i+1) h;simp only[List.cons_append,look]
   by_cases hb:b=p.1
   ·rw[if_pos hb,if_pos hb,if_neg (by rw[hb];exact fun e=>hne e.symm)]
   ·rw[if_neg hb,if_neg hb];exact ih
theorem Zl2(a b:α)(v:Gz):∀(m:List (α×Gz)) (i:Nat) (r:Nat×Gz),look a m i=some r->(look b (m.modify (r.1-i) fun p=>(p.1,v)) i).map (·.2)=if b=a then some v else (look b m i).map (·.2)
 |[],i,r,h=>by simp[look]at h
 |p::m,i,r,h=>by
  have hl:=Zez a (p::m) i r h;unfold look at h
  split at h
  ·rename_i hab
   cases h
   simp only[Nat.sub_self,List.modify_zero_cons,look]
   by_cases hb:b=a
   ·rw[if_pos (by rw[hb,hab]),if_pos hb];rfl
   ·rw[if_neg (by rw[<-hab];exact hb),if_neg hb,if_neg (by rw[<-hab];exact hb)]
  ·rename_i hne
   have h1:=(Zez a m (i+1) r h).1;have ih:=Zl2 a b v m (i+1) r h;rw[show r.1-i=(r.1-(i+1))+1 by omega,List.modify_succ_cons];simp only[look]
   by_cases hb:b=p.1
   ·rw[if_pos hb,if_pos hb,if_neg (by rw[hb];exact fun e=>hne e.symm)]
   ·rw[if_neg hb,if_neg hb];exact ih
theorem Zdj(m:List (α×Gz))(a b:α)(v:Gz):Zac (ZL m a v) b=if b=a then some v else Zac m b:=by
 unfold Zac ZL
 cases h:look a m 0 with
 |none=>exact Zl3 a b v m 0 h
 |some r=>
  have:=Zl2 a b v m 0 r h;rw[Nat.sub_zero]at this;exact this
theorem Zam(m:List (α×Gz))(a:α)(v:Gz):Zac (ZL m a v) a=some v:=by rw[Zdj,if_pos rfl]
theorem ZaJ(m:List (α×Gz)){a b:α}(v:Gz)(h:b≠a):Zac (ZL m a v) b=Zac m b:=by rw[Zdj,if_neg h]
theorem ZdM(a:α):Zac ([]:List (α×Gz)) a=none:=rfl
end
theorem KeyBy.agg_{α:Type}[DecidableEq α]{P:Gw}{kt:Gx}{enc:α->Gz}{fs:Array Field}(ht:P.underlying kt=some (.struct fs))(sU:∀a,∃cs,enc a= .agg cs)
  (hc:∀(w:Gy) (e:Bool) (a:α),(Instr.checkKey e 10000 kt (enc a)).run P w= .ok () w) (hb:∀a,Instr.sameBits 10000 (enc a) (enc a)=true)
  (aO:∀(w:Gy) (x y:α),(Op.equal kt (enc x) (enc y)).run P w= .ok (decide (x=y)) w):KeyBy P kt enc:=by
 refine⟨hc,hb,fun w a es m h=>?_⟩;have h2:=Zfl (a:=a) (enc:=enc) aO w es m 0 h;unfold Instr.findKey;obtain⟨cs,ha⟩:=sU a
 cases es with
 |nil=>
  cases m with
  |nil=>simp[run_underlying ht,Instr.findNow,look]
  |cons p m=>simp at h
 |cons e es=>
  have hn:Instr.findNow (.struct fs) (enc a) (e::es) 0=none:=by
   unfold Instr.findNow;rw[ha];simp[Instr.sameNow]
  simp[run_underlying ht,hn,h2]
/- Maps by a key and a number,and by versions. -/
def Zdw(p:Int×Int):Gz:= .agg #[Qi p.1,Qi p.2]
def Zdq(v:Ver):Gz:= .agg #[Qi v.tx,Qi v.key,Qi v.nth]
theorem ZsP(w:Gy)(x y:Int×Int):(Op.equal 224 (Zdw x) (Zdw y)).run Tryz.prog w= .ok (decide (x=y)) w:=by
 obtain⟨a,b⟩:=x;obtain⟨a',b'⟩:=y;unfold Zdw
 show(Op.equalIn 10000 _ _ _).run _ w=_
 rw[run_equalIn_struct w _ _ _ _ (by kernel_rfl) (by kernel_rfl)];have hI:∀(w:Gy) (d:Nat) (x y:Int),(Op.equalIn (d+1) 3 (Qi x) (Qi y)).run Tryz.prog w= .ok (x==y) w:=fun w d x y=>run_equalIn_int w d _ _ _ x y Tryz.underlying3
 by_cases h1:a=a'<;>by_cases h2:b=b'<;>
  simp[Program.fieldsOf,Tryz.underlying224,Op.eqFields,part,hI,h1,h2,Result.andThen]
theorem ZjZ(w:Gy)(x y:Ver):(Op.equalIn 10000 36 (Zdq x) (Zdq y)).run Tryz.prog w= .ok (decide (x=y)) w:=by
 obtain⟨a,b,c⟩:=x;obtain⟨a',b',c'⟩:=y;unfold Zdq;rw[run_equalIn_struct w _ _ _ _ (by kernel_rfl) (by kernel_rfl)];have hI:∀(w:Gy) (d:Nat) (x y:Int),(Op.equalIn (d+1) 3 (Qi x) (Qi y)).run Tryz.prog w= .ok (x==y) w:=fun w d x y=>run_equalIn_int w d _ _ _ x y Tryz.underlying3
 by_cases h1:a=a'<;>by_cases h2:b=b'<;>by_cases h3:c=c'<;>
  simp[Program.fieldsOf,Tryz.underlying36,Op.eqFields,part,hI,h1,h2,h3,Result.andThen]
theorem ZnN(w:Gy)(e:Bool)(p:Int×Int):(Instr.checkKey e 10000 224 (Zdw p)).run Tryz.prog w= .ok () w:=by
 show(Instr.checkKey e (9998+1+1) _ _).run _ w=_
 generalize 9998=d;have hI:∀(w:Gy) (x:Int),(Instr.checkKey e (d+1) 3 (Qi x)).run Tryz.prog w= .ok () w:=fun w x=>by unfold Instr.checkKey;simp[run_underlying Tryz.underlying3]
 unfold Instr.checkKey Zdw;simp[run_underlying Tryz.underlying224,<-Array.forIn_toList,part,hI,Result.andThen]
theorem Zo0(w:Gy)(e:Bool)(p:Ver):(Instr.checkKey e 10000 36 (Zdq p)).run Tryz.prog w= .ok () w:=by
 show(Instr.checkKey e (9998+1+1) _ _).run _ w=_
 generalize 9998=d;have hI:∀(w:Gy) (x:Int),(Instr.checkKey e (d+1) 3 (Qi x)).run Tryz.prog w= .ok () w:=fun w x=>by unfold Instr.checkKey;simp[run_underlying Tryz.underlying3]
 unfold Instr.checkKey Zdq;simp[run_underlying Tryz.underlying36,<-Array.forIn_toList,part,hI,Result.andThen]
theorem ZeA:KeyBy Tryz.prog 224 Zdw:=KeyBy.agg_ Tryz.underlying224 (fun a=>⟨_,rfl⟩) ZnN (fun a=>by simp[Zdw,Instr.sameBits]) ZsP
theorem Zi8:KeyBy Tryz.prog 36 Zdq:=KeyBy.agg_ Tryz.underlying36 (fun a=>⟨_,rfl⟩) Zo0 (fun a=>by simp[Zdq,Instr.sameBits]) ZjZ
theorem Zel(w:Gy):(zeroValue 3).run Tryz.prog w= .ok (Qi 0) w:=by kernel_rfl
def ZaV(id:Int)(l:Gu)(k:Nat):Int:=
 match l[k]? with
 |none=>0
 |some o=>if opB o=false then 1 else if o.read&&o.tx==id&& !decide (o.nth<=(wrN l o.key k:Int)) then 6 else 0
def ZJ(id:Int)(l:Gu):Nat->Int
 |0=>0
 |k+1=>if ZJ id l k=0 then ZaV id l k else ZJ id l k
def Z3(id:Int)(l:Gu):Int:=if idB id=false then 1 else if 4095<l.length then 9 else ZJ id l l.length
def WrM(m:List ((Int×Int)×Gz))(l:Gu)(k:Nat):Prop:=
 ∀key n:Int,(Zac m (key,n)).getD (Qi 0)= Qi (if n=0 then (wrN l key k:Int) else if 1<=n∧n<=(wrN l key k:Int) then 1 else 0)
theorem WrM.nil(l:Gu):WrM [] l 0:=fun key n=>by
 rw[ZdM];have:wrN l key 0=0:=rfl;rw[this]
 by_cases h:n=0
 ·rw[if_pos h];rfl
 ·rw[if_neg h,if_neg (by omega)];rfl
theorem WrM.skip{m:List ((Int×Int)×Gz)}{l:Gu}{k:Nat}(h:WrM m l k)(hk:k<l.length)(hr:l[k].read=true):WrM m l (k+1):=fun key n=>by
 rw[Zfo hk rfl (by unfold isW;rw[hr];rfl)];exact h key n
theorem WrM.put{m:List ((Int×Int)×Gz)}{l:Gu}{k:Nat}{x:HOp}(h:WrM m l k)(hk:k<l.length)(hx:l[k]=x)(hr:x.read=false):
  WrM (ZL (ZL m (x.key,0) (Qi ((wrN l x.key k:Int)+1))) (x.key,(wrN l x.key k:Int)+1) (Qi 1)) l (k+1):=fun key n=>by
 subst hx
 by_cases hkey:key=l[k].key
 ·subst hkey;rw[Zjy hk rfl (by unfold isW;rw[hr];simp)]
  by_cases h0:n=0
  ·subst h0;rw[ZaJ _ _ (fun e=>by injection e with _ e;omega),Zam,if_pos rfl];rfl
  ·rw[if_neg h0]
   by_cases h1:n=(wrN l l[k].key k:Int)+1
   ·rw[h1,Zam,if_pos (by omega)];rfl
   ·rw[ZaJ _ _ (fun e=>by injection e with _ e;exact h1 e),ZaJ _ _ (fun e=>by injection e with _ e;exact h0 e),h l[k].key n,if_neg h0]
    by_cases h2:1<=n∧n<=(wrN l l[k].key k:Int)
    ·rw[if_pos h2,if_pos (by omega)]
    ·rw[if_neg h2,if_neg (by omega)]
 ·rw[ZaJ _ _ (fun e=>by injection e with e _;exact hkey e),ZaJ _ _ (fun e=>by injection e with e _;exact hkey e),h key n,
   Zfo hk rfl (by
    unfold isW;have:(l[k].key==key)=false:=by rw[beq_eq_false_iff_ne];exact fun e=>hkey e.symm
    rw[this];simp)]
/- Walks:simple by the program;the bits of their kinds,by the program and by the document. -/
section
variable {α:Type} [DecidableEq α]
theorem Zh8(a:α):∀(m:List (α×Gz)) (i:Nat),look a m i=none↔a∉m.map (·.1)
 |[],i=>by simp[look]
 |p::m,i=>by
  unfold look
  by_cases h:a=p.1
  ·simp[h]
  ·simp only[Gb,F9,h,if_false,false_or];exact Zh8 a m (i+1)
theorem ZpO(m:List (α×Gz))(a:α)(v:Gz):(ZL m a v).map (·.1)=if a∈m.map (·.1) then m.map (·.1) else m.map (·.1)++[a]:=by
 unfold ZL
 cases h:look a m 0 with
 |none=>
  rw[if_neg ((Zh8 a m 0).1 h),F4];rfl
 |some r=>
  rw[if_pos (by
   rcases Classical.em (a∈m.map (·.1))with h'|h'
   ·exact h'
   ·rw[(Zh8 a m 0).2 h']at h;cases h)]
  apply List.ext_getElem?
  intro j;simp only[List.getElem?_map,List.getElem?_modify]
  cases m[j]? with
  |none=>simp
  |some p=>by_cases hj:r.1=j<;>simp[hj]
end
theorem ZeI:KeyBy Tryz.prog 3 (fun n:Int=>Value.int .i64 n):=KeyBy.int_ Tryz.underlying3
def Za3(a b c:Bool):Int:=(if a then 2 else 0)+(if b then 4 else 0)+(if c then 8 else 0)
def Zmd(l:List Edge)(n:Nat)(k:Int):Bool:=(l.take n).any fun e=>e.k==k
def Zi2(l:List Edge):Int:=Za3 (Zmd l l.length 1) (Zmd l l.length 2) (Zmd l l.length 3)
/- The document's own small walks over numbers:where one stands,how often,put among rising ones. -/
def ZdN(x:Int):Gv->Nat->Int
 |[],_=> -1
 |y::l,k=>if y=x then k else ZdN x l (k+1)
theorem ZgW(x y:Int)(l:Gv)(k:Nat):ZdN x (y::l) k=if y=x then (k:Int) else ZdN x l (k+1):=rfl
theorem Zt6(F:Gt)(w:Gy)(A:OA)(c:Nat)(l:Gv)(x:Int)(h:Ints F w A l)(hl:l.length<=17592186044415):
  CN 132 #[.slice A l.length c,Qi x] w (Qi (ZdN x l 0)):=by
 go_enter Tryz.func132,Tryz.ntmps132;go_wp2
 go_loopg [9] l.length (fun gk i wr=>∃k:Nat,k+gk=l.length∧i= Qi k∧Hid (ZdN x (l.drop k) k=ZdN x l 0)∧Upd No w wr)
 case atStart=>exact⟨0,by omega,rfl,Qh rfl,Gg _ _⟩
 case round=>
  obtain⟨k,aK,rfl,hs,hu⟩:=hrel
  by_cases hlt:k<l.length
  ·obtain⟨ad,hA,_,_,hc⟩:=(h.upd hu Qo).at_ hlt;obtain⟨y,hy⟩:=Qe (l[k]);rw[hy]at hc;subst hA;have X:=Qh (show l.drop k=y::l.drop (k+1) by rw[<-hy];exact Ev hlt);clear hy;have b1:(0:Int)<=(k:Int):=Qn _;have b2:(k:Int)<(l.length:Int):=by omega
   by_cases he:y=x
   ·have HV:=Qh (show ZdN x l 0=(k:Int) by rw[<-hs.out,X.out,ZgW,if_pos he]);have dO:(y==x)=true:=by simpa using he
    clear he;go_wp2;go_ret;exact⟨by rw[HV.out];rfl,hu⟩
   ·have HV:=Qh (show ZdN x (l.drop (k+1)) (k+1)=ZdN x l 0 by rw[<-hs.out,X.out,ZgW,if_neg he]);have dO:(y==x)=false:=by simpa using he
    clear he;go_wp2;go_roundg (gk-1);exact⟨k+1,by omega,by go_num,HV,hu⟩;omega
  ·obtain rfl:k=l.length:=by omega
   have HV:=Qh (show ZdN x l 0= -1 by rw[<-hs.out,Fq];rfl);go_wp2;go_ret;exact⟨by rw[HV.out];rfl,hu⟩
def ZdQ(x:Int):Gv->Nat->Nat
 |[],n=>n
 |y::l,n=>ZdQ x l (if x=y then n+1 else n)
theorem ZnB(x:Int):∀(l:Gv) (n:Nat),ZdQ x l n=n+l.count x
 |[],n=>by simp[ZdQ]
 |y::l,n=>by
  show ZdQ x l (if x=y then n+1 else n)=_
  rw[ZnB x l,List.count_cons]
  by_cases e:x=y
  ·subst e;simp;omega
  ·have:(y==x)=false:=by rw[beq_eq_false_iff_ne];exact fun h=>e h.symm
   simp[e,this]
theorem Zps(F:Gt)(w:Gy)(A:OA)(c:Nat)(l:Gv)(x:Int)(h:Ints F w A l)(hl:l.length<=17592186044415):
  CN 129 #[.slice A l.length c,Qi x] w (Qi ((l.count x:Nat):Int)):=by
 go_enter Tryz.func129,Tryz.ntmps129;go_wp2
 go_loopg [5,10] l.length (fun gk s i wr=>∃k n:Nat,k+gk=l.length∧i= Qi k∧s= Qi n∧n<=k∧Hid (ZdQ x (l.drop k) n=ZdQ x l 0)∧Upd No w wr)
 case atStart=>exact⟨0,0,by omega,rfl,rfl,by omega,Qh rfl,Gg _ _⟩
 case round=>
  obtain⟨k,n,aK,rfl,rfl,hn,hs,hu⟩:=hrel
  by_cases hlt:k<l.length
  ·obtain⟨ad,hA,_,_,hc⟩:=(h.upd hu Qo).at_ hlt;obtain⟨y,hy⟩:=Qe (l[k]);rw[hy]at hc;subst hA;have X:=Qh (show l.drop k=y::l.drop (k+1) by rw[<-hy];exact Ev hlt);clear hy;have b1:(0:Int)<=(k:Int):=Qn _;have b2:(k:Int)<(l.length:Int):=by omega
   by_cases he:x=y
   ·have HV:=Qh (show ZdQ x (l.drop (k+1)) (n+1)=ZdQ x l 0 by rw[<-hs.out,X.out];show _=ZdQ x _ (if x=y then n+1 else n);rw[if_pos he]);have dO:(x==y)=true:=by simpa using he
    clear he;go_wp2;go_roundg (gk-1);exact⟨k+1,n+1,by omega,by go_num,by go_num,by omega,HV,hu⟩;omega
   ·have HV:=Qh (show ZdQ x (l.drop (k+1)) n=ZdQ x l 0 by rw[<-hs.out,X.out];show _=ZdQ x _ (if x=y then n+1 else n);rw[if_neg he]);have dO:(x==y)=false:=by simpa using he
    clear he;go_wp2;go_roundg (gk-1);exact⟨k+1,n,by omega,by go_num,rfl,by omega,HV,hu⟩;omega
  ·obtain rfl:k=l.length:=by omega
   have HV:=Qh (show n=l.count x by have:=hs.out;rw[Fq,ZnB x l 0]at this;simpa[ZdQ]using this);go_wp2;go_ret;exact⟨by rw[HV.out];rfl,hu⟩
theorem Zu8(F G:Gt)(w:Gy)(A B:OA)(c d:Nat)(l m:Gv)(h:Ints F w A l)(hm:Ints G w B m)(hl:l.length<=17592186044415)(aN:m.length<=17592186044415):
  CN 85 #[.slice A l.length c,.slice B m.length d] w (.bool (l.length==m.length&&l.all fun x=>l.count x==m.count x)):=by
 by_cases hlm:l.length=m.length
 ·have hb:((l.length:Int) != (m.length:Int))=false:=by rw[hlm];simp
  have lS:=Qh (show(l.length==m.length)=true by simpa using hlm);clear hlm;go_enter Tryz.func85,Tryz.ntmps85;go_wp2
  go_loopg [14] l.length (fun gk i wr=>∃k:Nat,k+gk=l.length∧i= Qi k∧Hid ((l.drop k).all (fun x=>l.count x==m.count x)=l.all (fun x=>l.count x==m.count x))∧Upd No w wr)
  case atStart=>exact⟨0,by omega,rfl,Qh rfl,Gg _ _⟩
  case round=>
   obtain⟨k,aK,rfl,hs,hu⟩:=hrel
   by_cases hlt:k<l.length
   ·obtain⟨ad,hA,_,_,hc⟩:=(h.upd hu Qo).at_ hlt;obtain⟨y,hy⟩:=Qe (l[k]);rw[hy]at hc;subst hA;have X:=Qh (show l.drop k=y::l.drop (k+1) by rw[<-hy];exact Ev hlt);clear hy;have b1:(0:Int)<=(k:Int):=Qn _;have b2:(k:Int)<(l.length:Int):=by omega
    go_wp2_with fail;refine Ck (Zps F _ (some ad) c l y (h.upd hu Qo) hl) fun w1 hu1=>?_;go_wp2_with fail;refine Ck (Zps G _ B d m y (hm.upd (hu.trans hu1) Qo) aN) fun w2 hu2=>?_;have HU:=Qh ((hu.trans hu1).trans hu2);clear hu1 hu2
    by_cases he:l.count y=m.count y
    ·have dO:(((l.count y:Nat):Int) != ((m.count y:Nat):Int))=false:=by rw[he];simp
     have HV:=Qh (show(l.drop (k+1)).all (fun x=>l.count x==m.count x)=l.all (fun x=>l.count x==m.count x) by rw[<-hs.out,X.out,List.all_cons,he];simp);clear he;go_wp2;go_roundg (gk-1);exact⟨k+1,by omega,by go_num,HV,HU.out⟩;omega
    ·have dO:(((l.count y:Nat):Int) != ((m.count y:Nat):Int))=true:=by rw[bne_iff_ne];omega
     have HV:=Qh (show l.all (fun x=>l.count x==m.count x)=false by rw[<-hs.out,X.out,List.all_cons,beq_eq_false_iff_ne.2 he];simp);clear he;go_wp2;go_ret;exact⟨by rw[HV.out,lS.out];rfl,HU.out⟩
   ·obtain rfl:k=l.length:=by omega
    have HV:=Qh (show l.all (fun x=>l.count x==m.count x)=true by rw[<-hs.out,Fq];rfl);go_wp2;go_ret;exact⟨by rw[HV.out,lS.out];rfl,hu⟩
 ·have hb:((l.length:Int) != (m.length:Int))=true:=by rw[bne_iff_ne];omega
  have lS:=Qh (show(l.length==m.length)=false by simpa using hlm);clear hlm;go_enter Tryz.func85,Tryz.ntmps85;go_wp2;go_ret;exact⟨by rw[lS.out];rfl,Gg _ _⟩
def ZcB(n:Int)(done:Bool)(out:Gv):Gv->List Int
 |[]=>if done then out else out++[n]
 |x::l=>ZcB n (done||decide (n<=x)) ((if !done&&decide (n<=x) then out++[n] else out)++(if x=n then [] else [x])) l
def Zg(n:Int):Gv->List Int
 |[]=>[n]
 |x::l=>if n<=x then n::(x::l).filter (fun y=> !(y==n)) else x::Zg n l
theorem Zbo(n a:Int):∀l,a∈Zg n l↔a=n∨a∈l
 |[]=>by simp[Zg]
 |x::l=>by
  have ih:=Zbo n a l;unfold Zg
  split
  ·rw[F9,Fw]
   by_cases h:a=n<;>simp[h]
  ·simp only[F9,ih];grind
theorem ZdH(n:Int):∀l,l.Pairwise (·<·)->(Zg n l).Pairwise (·<·)
 |[],_=>by simp[Zg]
 |x::l,h=>by
  have h':=Fd.1 h;unfold Zg
  split
  ·refine Fd.2 ⟨fun a ha=>?_,h.filter _⟩;rw[Fw]at ha;have h1:a≠n:=by simpa using ha.2
   rcases F9.1 ha.1 with rfl|h2
   ·omega
   ·have:=h'.1 a h2;omega
  ·refine Fd.2 ⟨fun a ha=>?_,ZdH n l h'.2⟩;rcases(Zbo n a l).1 ha with rfl|h2
   ·omega
   ·exact h'.1 a h2
theorem Zq(n:Int)(l:Gv):(Zg n l).length<=l.length+1:=by
 induction l with
 |nil=>simp[Zg]
 |cons x l ih=>
  unfold Zg
  split
  ·have:=E3 (fun y=> !(y==n)) (x::l);simp only[Fs]at*;omega
  ·simp only[Fs]at*;omega
def Z2(s:Gv):Gv->List Int
 |[]=>s
 |k::l=>Z2 (Zg k s) l
theorem ZfY(a:Int):∀(l s:Gv),a∈Z2 s l↔a∈s∨a∈l
 |[],s=>by simp[Z2]
 |k::l,s=>by
  have ih:=ZfY a l (Zg k s);rw[Zbo]at ih
  show a∈Z2 (Zg k s) l↔_
  rw[ih,F9];grind
theorem ZgE:∀(l s:Gv),s.Pairwise (·<·)->(Z2 s l).Pairwise (·<·)
 |[],_,h=>h
 |k::l,s,h=>ZgE l _ (ZdH k s h)
theorem ZiI:∀(l s:Gv),(Z2 s l).length<=s.length+l.length
 |[],s=>by simp[Z2]
 |k::l,s=>by
  have:=ZiI l (Zg k s);have:=Zq k s
  show(Z2 (Zg k s) l).length<=_
  simp only[Fs];omega
theorem Zkf(n:Int):∀(l out:Gv),ZcB n true out l=out++l.filter fun y=> !(y==n)
 |[],out=>by simp[ZcB]
 |x::l,out=>by
  show ZcB n true ((if !true&&decide (n<=x) then out++[n] else out)++(if x=n then [] else [x])) l=_
  rw[Zkf n l]
  by_cases h:x=n
  ·subst h;simp
  ·have:(x==n)=false:=by simpa using h
   simp[h]
theorem ZiG(n:Int):∀(l out:Gv),ZcB n false out l=out++Zg n l
 |[],out=>by simp[ZcB,Zg]
 |x::l,out=>by
  show ZcB n (false||decide (n<=x)) ((if !false&&decide (n<=x) then out++[n] else out)++(if x=n then [] else [x])) l=_
  unfold Zg
  by_cases h:n<=x
  ·rw[if_pos h,Qt h]
   show ZcB n true ((out++[n])++(if x=n then [] else [x])) l=_
   rw[Zkf]
   by_cases h2:x=n
   ·subst h2;simp
   ·simp[h2]
  ·rw[if_neg h,Qf h]
   show ZcB n false (out++(if x=n then [] else [x])) l=_
   rw[if_neg (show¬x=n by omega),ZiG n l];simp
theorem Zs1(n:Int)(l:Gv):ZcB n false [] l=Zg n l:=by rw[ZiG];rfl
def Zin(w:Gy)(l:Gv)(e:Ending)(w':Gy):Prop:=∃A c,e= .returned (.slice A l.length c)∧w'.ownsRow w.heap.size 3 1 (.slice A l.length c) l.length (l.map (Value.int .i64))∧Upd No w w'
theorem Zc7:SlT Tryz.prog 57 3 1 8:=SlT.mk_ Tryz.underlying57 (z:= Qi 0) (by kernel_rfl) rfl (by omega)
theorem Zv6(F:Gt)(w:Gy)(A:OA)(c:Nat)(l:Gv)(n:Int)(h:Ints F w A l)(hl:l.length<=100000000):
  Calls Tryz.prog 131 #[.slice A l.length c,Qi n] w (Zin w (ZcB n false [] l)):=by
 go_enter Tryz.func131,Tryz.ntmps131;go_wp2
 go_loopg [5,6,11] l.length (fun gk s d i wr=>∃(k:Nat) (b:Bool) (A3:OA) (c3:Nat) (xs:Gv),k+gk=l.length∧i= Qi k∧d= .bool b∧s= .slice A3 xs.length c3∧Hid (ZcB n b xs (l.drop k)=ZcB n false [] l)∧xs.length<=2*k∧
  wr.ownsRow w.heap.size 3 1 (.slice A3 xs.length c3) xs.length (xs.map (Value.int .i64))∧Upd No w wr)
 case atStart=>exact⟨0,false,none,0,[],by omega,rfl,rfl,rfl,Qh rfl,by simp,Gf _ _ _ _,Gg _ _⟩
 case round=>
  obtain⟨k,b,A3,c3,xs,aK,rfl,rfl,rfl,hs,hxl,ae,hu⟩:=hrel
  by_cases hlt:k<l.length
  ·obtain⟨ad,hA,_,_,hc⟩:=(h.upd hu Qo).at_ hlt;obtain⟨y,hy⟩:=Qe (l[k]);rw[hy]at hc;subst hA;have X:=Qh (show l.drop k=y::l.drop (k+1) by rw[<-hy];exact Ev hlt);clear hy;have b1:(0:Int)<=(k:Int):=Qn _;have b2:(k:Int)<(l.length:Int):=by omega
   have ag:=hs.out;rw[X.out]at ag;have ag:ZcB n (b||decide (n<=y)) ((if !b&&decide (n<=y) then xs++[n] else xs)++(if y=n then [] else [y])) (l.drop (k+1))=ZcB n false [] l:=ag;have hz:=hu.size;have zD:=fun i e=>(ae.lt i e).1
   have HZ:=Qh zD;clear zD
   cases b
   ·by_cases hny:n<=y
    ·rw[Qt hny]at ag;simp only[Bool.not_false,Bool.true_and,if_true,Bool.false_or]at ag
     by_cases hyn:y=n
     ·rw[if_pos hyn,Fv]at ag;have hb:(y != n)=false:=by rw[hyn];simp
      have HS:=Qh ag;clear ag hyn;go_wp2_with (at_builtin;refine ZX rfl rfl Zc7 (v:= .slice A3 xs.length c3) (cells:=[Qi n]) (by rfl) rfl ae rfl rfl (by omega) (by omega) (by omega) ?_;intro g' c' w2 am hu2 cJ hlt2);go_roundg (gk-1);exact⟨k+1,true,some ⟨g',0,none⟩,c',xs++[n],by omega,by go_num,rfl,by simp,HS,by simp;omega,by simpa using am,hu.then_ hu2 fun i e=> .inr (HZ.out i e)⟩;omega
     ·rw[if_neg hyn]at ag;have hb:(y != n)=true:=by rw[bne_iff_ne];exact hyn
      have HS:=Qh ag;clear ag hyn
      go_wp2_with (at_builtin;(first
       |(refine ZX rfl rfl Zc7 (v:= .slice A3 xs.length c3) (cells:=[Qi n]) (by rfl) rfl ae rfl rfl (by omega) (by omega) (by omega) ?_;intro g' c' w2 am hu2 cJ hlt2;have dB:=hu2.size;have sM:=Qh (fun i e=>(am.lt i e).1);have bC:=Qh (hu.then_ hu2 fun i e=> .inr (HZ.out i e));clear cJ hu2)
       |(refine ZX rfl rfl Zc7 (v:= .slice (some ⟨g',0,none⟩) (xs.length+1) c') (cells:=[Qi y]) (by rfl) rfl am rfl rfl (by omega) (by omega) (by omega) ?_;intro g3 c4 w3 aB hu3 eM eL)))
      go_roundg (gk-1);exact⟨k+1,true,some ⟨g3,0,none⟩,c4,xs++[n]++[y],by omega,by go_num,rfl,by simp,HS,by simp;omega,by simpa using aB,bC.out.then_ hu3 fun i e=> .inr (sM.out i e)⟩;omega
    ·have B6:¬y≥n:=by omega
     rw[Qf hny]at ag;simp only[Bool.not_false,Bool.and_false,Bool.or_false]at ag;rw[if_neg (show¬(false=true) by decide),if_neg (show¬y=n by omega)]at ag;have hb:(y != n)=true:=by rw[bne_iff_ne];omega
     have HS:=Qh ag;clear ag;go_wp2_with (at_builtin;refine ZX rfl rfl Zc7 (v:= .slice A3 xs.length c3) (cells:=[Qi y]) (by rfl) rfl ae rfl rfl (by omega) (by omega) (by omega) ?_;intro g' c' w2 am hu2 cJ hlt2);go_roundg (gk-1);exact⟨k+1,false,some ⟨g',0,none⟩,c',xs++[y],by omega,by go_num,rfl,by simp,HS,by simp;omega,by simpa using am,hu.then_ hu2 fun i e=> .inr (HZ.out i e)⟩;omega
   ·simp only[Bool.not_true,Bool.false_and,Bool.true_or]at ag;rw[if_neg (show¬(false=true) by decide)]at ag
    by_cases hyn:y=n
    ·rw[if_pos hyn,Fv]at ag;have hb:(y != n)=false:=by rw[hyn];simp
     have HS:=Qh ag;clear ag hyn;go_wp2;go_roundg (gk-1);exact⟨k+1,true,A3,c3,xs,by omega,by go_num,rfl,rfl,HS,by omega,ae,hu⟩;omega
    ·rw[if_neg hyn]at ag;have hb:(y != n)=true:=by rw[bne_iff_ne];exact hyn
     have HS:=Qh ag;clear ag hyn;go_wp2_with (at_builtin;refine ZX rfl rfl Zc7 (v:= .slice A3 xs.length c3) (cells:=[Qi y]) (by rfl) rfl ae rfl rfl (by omega) (by omega) (by omega) ?_;intro g' c' w2 am hu2 cJ hlt2);go_roundg (gk-1);exact⟨k+1,true,some ⟨g',0,none⟩,c',xs++[y],by omega,by go_num,rfl,by simp,HS,by simp;omega,by simpa using am,hu.then_ hu2 fun i e=> .inr (HZ.out i e)⟩;omega
  ·obtain rfl:k=l.length:=by omega
   have ag:=hs.out;rw[Fq]at ag;have hz:=hu.size;have HZ:=Qh (fun i e=>(ae.lt i e).1)
   cases b
   ·have HS:Hid (xs++[n]=ZcB n false [] l):=Qh ag;clear ag;go_wp2_with (at_builtin;refine ZX rfl rfl Zc7 (v:= .slice A3 xs.length c3) (cells:=[Qi n]) (by rfl) rfl ae rfl rfl (by omega) (by omega) (by omega) ?_;intro g' c' w2 am hu2 cJ hlt2);go_ret;refine⟨some ⟨g',0,none⟩,c',?_,?_,hu.then_ hu2 fun i e=> .inr (HZ.out i e)⟩
    ·rw[<-HS.out];simp
    ·rw[<-HS.out];simpa using am
   ·have HS:Hid (xs=ZcB n false [] l):=Qh ag;clear ag;go_wp2;go_ret;refine⟨A3,c3,?_,?_,hu⟩
    ·rw[<-HS.out];rfl
    ·rw[<-HS.out];exact ae
theorem Zsi(F:Gt)(w:Gy)(A:OA)(c:Nat)(l:Gv)(n:Int)(h:Ints F w A l)(hl:l.length<=100000000):
  Calls Tryz.prog 131 #[.slice A l.length c,Qi n] w (Zin w (Zg n l)):=by
 rw[<-Zs1];exact Zv6 F w A c l n h hl
theorem ZlF(F:Gt)(w:Gy)(A:OA)(c:Nat)(l:Gv)(n:Int)(h:Ints F w A l)(hl:l.length<=100000000):
  Calls Tryz.prog 96 #[.slice A l.length c,Qi n] w (Zin w (Zg n l)):=by
 go_enter Tryz.func96,Tryz.ntmps96;go_wp2_with fail;refine(Zsi F _ A c l n h hl).mono ?_;rintro e w1 ⟨A1,c1,rfl,aW,hu1⟩;go_wp2;go_ret;exact⟨A1,c1,rfl,aW,hu1⟩
/- The document on one transaction:keys,needs,right. -/
def ZbS(tch:Bool)(s:Gv):Gu->List Int
 |[]=>s
 |o::l=>ZbS tch (if tch|| !o.read then Zg o.key s else s) l
theorem Zf1(tch:Bool)(s:Gv)(o:HOp)(l:Gu):ZbS tch s (o::l)=ZbS tch (if tch|| !o.read then Zg o.key s else s) l:=rfl
theorem Zd9{w w':Gy}{A:OA}{c:Nat}{l:Gv}(h:w'.ownsRow w.heap.size 3 1 (.slice A l.length c) l.length (l.map (Value.int .i64))):Ints (fun i=>w.heap.size<=i) w' A l:=Ints.of_own h
theorem Zvi(F:Gt)(w:Gy)(i0:Int)(dn:Bool)(A:OA)(c:Nat)(l:Gu)(tch:Bool)(h:HOps F w A l)(hl:l.length<=100000):
  Calls Tryz.prog 128 #[.agg #[Qi i0,.bool dn,.slice A l.length c],.bool tch] w (Zin w (ZbS tch [] l)):=by
 have uT:=(Gg No w).alloc (.cells #[Qi i0,.bool dn,.slice A l.length c] 53);go_enter Tryz.func128,Tryz.ntmps128;go_wp2
 go_loopg [5,11] l.length (fun gk s i wr=>∃(k:Nat) (A3:OA) (c3:Nat) (xs:Gv),k+gk=l.length∧i= Qi k∧s= .slice A3 xs.length c3∧Hid (ZbS tch xs (l.drop k)=ZbS tch [] l)∧xs.length<=k∧
  Hid (wr.ownsRow w.heap.size 3 1 (.slice A3 xs.length c3) xs.length (xs.map (Value.int .i64)))∧Upd No w wr)
 case atStart=>exact⟨0,none,0,[],by omega,rfl,rfl,Qh rfl,by simp,Qh (Gf _ _ _ _),uT⟩
 case round=>
  obtain⟨k,A3,c3,xs,aK,rfl,rfl,hs,hxl,ae,hu⟩:=hrel
  by_cases hlt:k<l.length
  ·obtain⟨ad,aA,q0,q1,q2,q3⟩:=(h.upd hu Qo).at_ hlt;obtain⟨x,hx⟩:=Qe (l[k]);rw[hx]at q0 q1 q2 q3;subst aA;have X:=Qh (show l.drop k=x::l.drop (k+1) by rw[<-hx];exact Ev hlt);have b1:(0:Int)<=(k:Int):=Qn _;have b2:(k:Int)<(l.length:Int):=by omega
   clear hx;have bo:=Gh wr 50 [.bool x.read,Qi x.key,Qi x.tx,Qi x.nth];have uA:=(Gg No wr).alloc (.cells #[.bool x.read,Qi x.key,Qi x.tx,Qi x.nth] 50);have HP:=Qh (Zsi _ (wr.alloc (.cells #[.bool x.read,Qi x.key,Qi x.tx,Qi x.nth] 50)) A3 c3 xs x.key ((Zd9 ae.out).upd uA Qo) (by omega));have ag:=hs.out;rw[X.out,Zf1]at ag;have hz:=hu.size
   by_cases hc:(tch|| !x.read)=true
   ·rw[if_pos hc]at ag;have HS:=Qh ag;have hlen:=Zq x.key xs;clear ag
    cases tch
    ·have hr:x.read=false:=by simpa using hc
     rw[hr]at q0 HP uA bo;clear hc hr;go_wp2_with (go_at_call 131;refine HP.out.mono ?_;rintro e w1 ⟨A4,c4,rfl,cU,hu4⟩);go_roundg (gk-1);exact⟨k+1,A4,c4,Zg x.key xs,by omega,by go_num,rfl,HS,by omega,Qh (Zz cU (by simp;omega)),(hu.trans uA).trans hu4⟩;omega
    ·go_wp2_with (go_at_call 131;refine HP.out.mono ?_;rintro e w1 ⟨A4,c4,rfl,cU,hu4⟩);go_roundg (gk-1);exact⟨k+1,A4,c4,Zg x.key xs,by omega,by go_num,rfl,HS,by omega,Qh (Zz cU (by simp;omega)),(hu.trans uA).trans hu4⟩;omega
   ·rw[if_neg hc]at ag;have HS:=Qh ag;have fV:tch=false∧x.read=true:=by simpa using hc
    obtain⟨rfl,hr⟩:=fV;rw[hr]at q0 uA;have HO:=Qh (Za ae.out uA Qo);clear ag hc hr;go_wp2;go_roundg (gk-1);exact⟨k+1,A3,c3,xs,by omega,by go_num,rfl,HS,by omega,HO,hu.trans uA⟩;omega
  ·obtain rfl:k=l.length:=by omega
   have HV:=Qh (show xs=ZbS tch [] l by rw[<-hs.out,Fq];rfl);go_wp2;go_ret;exact⟨A3,c3,by rw[<-HV.out];rfl,by rw[<-HV.out];exact ae.out,hu⟩
/- The document on one transaction:what it needs of others. -/
def VersR(F:Gt)(w:Gy)(A:OA)(l:Gs):Prop:=Recs F w A 3 (l.map Ver.cells)
theorem VersR.at_{F:Gt}{w:Gy}{A:OA}{l:Gs}(h:VersR F w A l){k:Nat}(hk:k<l.length):∃ad,A=some ad∧
  w.cell? (ad.add (k*3))=some (Qi l[k].tx)∧w.cell? ⟨(ad.add (k*3)).block,(ad.add (k*3)).off+1,none⟩=some (Qi l[k].key)∧
  w.cell? ⟨(ad.add (k*3)).block,(ad.add (k*3)).off+2,none⟩=some (Qi l[k].nth):=by
 have dq:k<(l.map Ver.cells).length:=by simpa using hk
 obtain⟨ad,e,_,_,hc⟩:=Recs.at_ h dq;rw[Fk]at hc;exact⟨ad,e,by simpa using hc 0 _ rfl,by simpa using hc 1 _ rfl,by simpa using hc 2 _ rfl⟩
theorem VersR.upd{F S:Gt}{w w':Gy}{A:OA}{l:Gs}(h:VersR F w A l)(k:Upd S w w')(hn:∀i,F i->¬S i):VersR F w' A l:=Recs.upd h k hn
theorem ZoZ{l:Gs}:∀r∈l.map Ver.cells,r.length=3:=fun r hr=>by
 obtain⟨e,_,rfl⟩:=Gc.1 hr;rfl
theorem Zo6:SlT Tryz.prog 189 36 3 24:=SlT.mk_ Tryz.underlying189 (z:= .agg #[Qi 0,Qi 0,Qi 0]) (by kernel_rfl) rfl (by omega)
theorem ZsN(w:Gy)(x y:Ver):(binOp .eql 36 (Zdq x) (Zdq y)).run Tryz.prog w= .ok (.bool (x==y)) w:=by
 have:=ZjZ w x y;unfold Zdq at this ⊢;rw[run_eql_struct,this];simp only[Result.andThen]
 by_cases h:x=y<;>simp[h]
theorem Zhy{w':Gy}{base:Nat}{l:Gs}{A:OA}{c:Nat}(h:w'.ownsRow base 36 3 (.slice A l.length c) l.length (l.map Ver.cells).flatten):VersR (fun i=>base<=i) w' A l:=by
 have h2:=Recs.of_own (n:=l.length) (c:=c) ZoZ (by omega) h;exact Recs.weak h2 fun i _ hi=>(h.lt i hi).1
theorem Zwc(F:Gt)(w:Gy)(A:OA)(c:Nat)(l:Gs)(v:Ver)(h:VersR F w A l)(hl:l.length<=100000):
  CN 163 #[.slice A l.length c,.agg v.cells.toArray] w (.bool (l.contains v)):=by
 unfold Ver.cells;have bv:=Qh (Gh w 36 [Qi v.tx,Qi v.key,Qi v.nth]);have uT:=(Gg No w).alloc (.cells #[Qi v.tx,Qi v.key,Qi v.nth] 36);go_enter Tryz.func163,Tryz.ntmps163;go_wp2
 go_loopg [9] l.length (fun gk i wr=>∃(k:Nat),k+gk=l.length∧i= Qi k∧Hid ((l.drop k).contains v=l.contains v)∧Upd No (w.alloc (.cells #[Qi v.tx,Qi v.key,Qi v.nth] 36)) wr)
 case atStart=>exact⟨0,by omega,rfl,Qh rfl,Gg _ _⟩
 case round=>
  obtain⟨k,aK,rfl,hs,hu⟩:=hrel
  by_cases hlt:k<l.length
  ·obtain⟨ad,aA,q0,q1,q2⟩:=(h.upd (uT.trans hu) Qo).at_ hlt;obtain⟨x,hx⟩:=Qe (l[k]);rw[hx]at q0 q1 q2;subst aA;have X:=Qh (show l.drop k=x::l.drop (k+1) by rw[<-hx];exact Ev hlt);have b1:(0:Int)<=(k:Int):=Qn _;have b2:(k:Int)<(l.length:Int):=by omega
   clear hx;have uA:=(Gg No wr).alloc (.cells #[Qi x.tx,Qi x.key,Qi x.nth] 36);have bb:=(bv.out.upd hu id).upd uA id;obtain⟨v0,v1,v2⟩:=bb.c3;have HE:=fun W=>ZsN W x v
   unfold Zdq at HE;have ag:=hs.out;rw[X.out,List.contains_cons]at ag;clear bb
   by_cases hxv:x=v
   ·have HV:=Qh (show l.contains v=true by rw[<-ag,hxv];simp);have he:(x==v)=true:=by simpa using hxv
    rw[he]at HE;clear ag hxv he;go_wp2;go_ret;exact⟨by rw[HV.out];rfl,(uT.trans hu).trans uA⟩
   ·have he:(x==v)=false:=by simpa using hxv
    have zf:(v==x)=false:=by simpa using fun e=>hxv e.symm
    rw[zf,Bool.false_or]at ag;have HV:=Qh ag;rw[he]at HE;clear ag hxv he zf;go_wp2;go_roundg (gk-1);exact⟨k+1,by omega,by go_num,HV,hu.trans uA⟩;omega
  ·obtain rfl:k=l.length:=by omega
   have HV:=Qh (show l.contains v=false by rw[<-hs.out,Fq];rfl);go_wp2;go_ret;exact⟨by rw[HV.out];rfl,uT.trans hu⟩
def Zb0(id:Int)(o:HOp):Bool:=o.read&& !(o.tx==0)&& !(o.tx==id)
def ZS(id:Int)(acc:Gs):Gu->List Ver
 |[]=>acc
 |o::l=>ZS id (if Zb0 id o&& !acc.contains (Zw o) then acc++[Zw o] else acc) l
theorem Zfi(id:Int)(acc:Gs)(o:HOp)(l:Gu):ZS id acc (o::l)=ZS id (if Zb0 id o&& !acc.contains (Zw o) then acc++[Zw o] else acc) l:=rfl
def ZvV(w:Gy)(l:Gs)(e:Ending)(w':Gy):Prop:=∃A c,e= .returned (.slice A l.length c)∧w'.ownsRow w.heap.size 36 3 (.slice A l.length c) l.length (l.map Ver.cells).flatten∧Upd No w w'
theorem Zuc(F:Gt)(w:Gy)(i0:Int)(dn:Bool)(A:OA)(c:Nat)(l:Gu)(h:HOps F w A l)(hl:l.length<=100000):
  Calls Tryz.prog 126 #[.agg #[Qi i0,.bool dn,.slice A l.length c]] w (ZvV w (ZS i0 [] l)):=by
 have uT:=(Gg No w).alloc (.cells #[Qi i0,.bool dn,.slice A l.length c] 53);have bT:=Qh (Gh w 53 [Qi i0,.bool dn,.slice A l.length c]);go_enter Tryz.func126,Tryz.ntmps126;go_wp2
 go_loopg [3,10] l.length (fun gk s i wr=>∃(k:Nat) (A3:OA) (c3:Nat) (xs:Gs),k+gk=l.length∧i= Qi k∧s= .slice A3 xs.length c3∧Hid (ZS i0 xs (l.drop k)=ZS i0 [] l)∧xs.length<=k∧
  Hid (wr.ownsRow (w.heap.size+1) 36 3 (.slice A3 xs.length c3) xs.length (xs.map Ver.cells).flatten)∧Upd No (w.alloc (.cells #[Qi i0,.bool dn,.slice A l.length c] 53)) wr)
 case atStart=>exact⟨0,none,0,[],by omega,rfl,rfl,Qh rfl,by simp,Qh (Gf _ _ _ _),Gg _ _⟩
 case round=>
  obtain⟨k,A3,c3,xs,aK,rfl,rfl,hs,hxl,ae,hu⟩:=hrel
  by_cases hlt:k<l.length
  ·obtain⟨ad,aA,q0,q1,q2,q3⟩:=(h.upd (uT.trans hu) Qo).at_ hlt;obtain⟨x,hx⟩:=Qe (l[k]);rw[hx]at q0 q1 q2 q3;subst aA;have X:=Qh (show l.drop k=x::l.drop (k+1) by rw[<-hx];exact Ev hlt);have b1:(0:Int)<=(k:Int):=Qn _;have b2:(k:Int)<(l.length:Int):=by omega
   clear hx;obtain⟨v,hv⟩:=Qe (Zw x);have bo:=Gh wr 50 [.bool x.read,Qi x.key,Qi x.tx,Qi x.nth];have uA:=(Gg No wr).alloc (.cells #[.bool x.read,Qi x.key,Qi x.tx,Qi x.nth] 50);have dD:=Qh ((rof (wr.alloc (.cells #[.bool x.read,Qi x.key,Qi x.tx,Qi x.nth] 50)) x).mono (R':=fun e w'=>e= .returned (.agg #[Qi v.tx,Qi v.key,Qi v.nth])∧Upd No (wr.alloc (.cells #[.bool x.read,Qi x.key,Qi x.tx,Qi x.nth] 50)) w') fun e w' h=>by rw[hv]at h;exact h);have BO:=Qh bo;have ag:=hs.out;rw[X.out,Zfi,hv]at ag;have aD:=Qh ag;have hz:=hu.size;clear hv ag bo;go_wp2_with fail;refine Ck dD.out fun w1 hu1=>?_;have uV:=hu1.alloc (.cells #[Qi v.tx,Qi v.key,Qi v.nth] 36);have bv:=Gh w1 36 [Qi v.tx,Qi v.key,Qi v.nth];have bo1:=BO.out.upd uV id;have bT1:=((bT.out.upd hu id).upd uA id).upd uV id;have HO:=Za ((Za ae.out uA Qo)) uV Qo;have HU:=Qh ((hu.trans uA).trans uV);have k0:=bo1.cell 0;have k2:=bo1.cell 2;have t0:=bT1.cell 0;have dj:=(uA.trans uV).size;simp only[Qz,Qs,Ge]at k0 k2 t0 dj hz;have hin:=fun W (hW:Upd No (w1.alloc (.cells #[Qi v.tx,Qi v.key,Qi v.nth] 36)) W)=>Zwc _ W A3 c3 xs v ((Zhy HO).upd hW Qo) (by omega)
   have cg:=Qh hin;have sq:=Qh HO;have CV:∀W,Upd No (w1.alloc (.cells #[Qi v.tx,Qi v.key,Qi v.nth] 36)) W->W.cell? ⟨w1.heap.size,0,none⟩=some (Qi v.tx)∧W.cell? ⟨w1.heap.size,1,none⟩=some (Qi v.key)∧W.cell? ⟨w1.heap.size,2,none⟩=some (Qi v.nth):=fun W hW=>⟨(bv.upd hW id).cell 0,(bv.upd hW id).cell 1,(bv.upd hW id).cell 2⟩
   have iX:=Qh CV;clear CV uV uA hu1 bv bo1 bT1 hin HO
   cases hr:x.read
   ·have HV:=Qh (show ZS i0 xs (l.drop (k+1))=ZS i0 [] l by rw[<-aD.out];unfold Zb0;rw[hr];simp);rw[hr]at k0;clear hr;go_wp2;go_roundg (gk-1);exact⟨k+1,A3,c3,xs,by omega,by go_num,rfl,HV,by omega,sq,HU.out⟩;omega
   ·rw[hr]at k0
    by_cases h0:x.tx=0
    ·have HV:=Qh (show ZS i0 xs (l.drop (k+1))=ZS i0 [] l by rw[<-aD.out];unfold Zb0;rw[h0];simp);have ju:(x.tx != 0)=false:=by rw[h0];rfl
     clear hr h0;go_wp2;go_roundg (gk-1);exact⟨k+1,A3,c3,xs,by omega,by go_num,rfl,HV,by omega,sq,HU.out⟩;omega
    ·have ju:(x.tx != 0)=true:=by rw[bne_iff_ne];exact h0
     by_cases h1:x.tx=i0
     ·have HV:=Qh (show ZS i0 xs (l.drop (k+1))=ZS i0 [] l by rw[<-aD.out];unfold Zb0;rw[h1];simp);have ld:(x.tx != i0)=false:=by rw[h1];simp
      clear hr h0 h1;go_wp2;go_roundg (gk-1);exact⟨k+1,A3,c3,xs,by omega,by go_num,rfl,HV,by omega,sq,HU.out⟩;omega
     ·have ld:(x.tx != i0)=true:=by rw[bne_iff_ne];exact h1
      have hq:Zb0 i0 x=true:=by unfold Zb0;rw[hr];simp[h0,h1]
      have HV:=Qh (show ZS i0 (if !xs.contains v then xs++[v] else xs) (l.drop (k+1))=ZS i0 [] l by rw[<-aD.out,hq];rfl);have v0:=(iX.out _ (Gg _ _)).1;have v1:=(iX.out _ (Gg _ _)).2.1;have v2:=(iX.out _ (Gg _ _)).2.2;clear hr h0 h1 hq;go_wp2_with fail;refine Ck (cg.out _ (Gg _ _)) fun w2 hu2=>?_;have bC:=Qh (HU.out.trans hu2);have aB:=Za sq.out hu2 Qo;have dB:=hu2.size;simp only[Ge]at dB;have v0':=(iX.out _ hu2).1;have v1':=(iX.out _ hu2).2.1;have v2':=(iX.out _ hu2).2.2;clear hu2 v0 v1 v2
      cases hc:xs.contains v
      ·have du:=Qh (show ZS i0 (xs++[v]) (l.drop (k+1))=ZS i0 [] l by rw[<-HV.out,hc];rfl);clear hc;go_wp2_with (at_builtin;refine ZX rfl rfl Zo6 (v:= .slice A3 xs.length c3) (cells:=[Qi v.tx,Qi v.key,Qi v.nth]) (by rfl) rfl aB rfl rfl (by omega) (by omega) (by omega) ?_;intro g' c' w4 ar hu4 cQ nr);go_roundg (gk-1);exact⟨k+1,some ⟨g',0,none⟩,c',xs++[v],by omega,by go_num,by simp,du,by simp;omega,Qh (by simpa[Ver.cells]using ar),bC.out.then_ hu4 fun i e=> .inr (by have:=(aB.lt i e).1;simp only[Ge];omega)⟩;omega
      ·have du:=Qh (show ZS i0 xs (l.drop (k+1))=ZS i0 [] l by rw[<-HV.out,hc];rfl);clear hc;go_wp2;go_roundg (gk-1);exact⟨k+1,A3,c3,xs,by omega,by go_num,rfl,du,by omega,Qh aB,bC.out⟩;omega
  ·obtain rfl:k=l.length:=by omega
   have HV:=Qh (show xs=ZS i0 [] l by rw[<-hs.out,Fq];rfl);go_wp2;go_ret;exact⟨A3,c3,by rw[<-HV.out];rfl,by rw[<-HV.out];exact Zz ae.out (by omega),uT.trans hu⟩
