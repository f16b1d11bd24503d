/- Digraphs: an end put among others. -/
import Derived.Lib.Overlaps
import Derived.Laws.Externs
import Derived.Test.YtdbjokfejmgepaaRaai
import Derived.Test.YtdbjokfejmgepaaRaau
namespace Go.Proofs.Ytdbjokfejmgepaa
set_option linter.unusedVariables false
set_option linter.unusedSimpArgs false
section
open Go.RowKit
def ZfD (l:List DEnd) (i:Nat) (x:DEnd):List DEnd:=l.take i++[x]++l.drop i
theorem ZjJ (l:List DEnd) (i:Nat) (x:DEnd) (hi:i≤l.length):(ZfD l i x).length=l.length+1:=by
 unfold ZfD;simp;omega
end
/- Digraphs:an end taken out from among others. -/
section
open Go.RowKit
def ZgW (l:List DEnd) (i:Nat):List DEnd:=l.take i++l.drop (i+1)
end
/- Digraphs:ends put in and taken out. -/
section
open Go.RowKit
/-! rising ends -/
def Zba (l:List DEnd):Prop:=l.Pairwise fun a b=>Zat a b<0
theorem Zf7 {a b:Int}:Ze4 a b<0↔a<b:=by unfold Ze4;split<;>(try split)<;>omega
theorem cmpI_eq {a b:Int}:Ze4 a b=0↔a=b:=by unfold Ze4;split<;>(try split)<;>omega
theorem Zf8 (a b:DEnd):Zat a b<0↔a.kind<b.kind∨(a.kind=b.kind∧(a.label<b.label∨(a.label=b.label∧a.node<b.node))):=by
 unfold Zat;simp only[Zhk]
 by_cases h1:a.kind=b.kind
 ·rw[if_pos (cmpI_eq.2 h1)]
  by_cases h2:a.label=b.label
  ·rw[if_pos (cmpI_eq.2 h2)]
   by_cases h3:a.node=b.node
   ·rw[if_pos (cmpI_eq.2 h3)];simp[orI,h1,h2,h3]
   ·rw[if_neg (fun e=>h3 (cmpI_eq.1 e)),Zf7];simp[h1,h2]
  ·rw[if_neg (fun e=>h2 (cmpI_eq.1 e)),Zf7];simp[h1,h2]
 ·rw[if_neg (fun e=>h1 (cmpI_eq.1 e)),Zf7];simp[h1]
theorem Zes (a b:DEnd):Zat a b=0↔a=b:=by
 obtain⟨ak,al,an⟩:=a;obtain⟨bk,bl,bn⟩:=b;unfold Zat;simp only[Zhk,DEnd.mk.injEq]
 by_cases h1:ak=bk
 ·rw[if_pos (cmpI_eq.2 h1)]
  by_cases h2:al=bl
  ·rw[if_pos (cmpI_eq.2 h2)]
   by_cases h3:an=bn
   ·rw[if_pos (cmpI_eq.2 h3)];simp[orI,h1,h2,h3]
   ·rw[if_neg (fun e=>h3 (cmpI_eq.1 e)),cmpI_eq];simp[h1,h2]
  ·rw[if_neg (fun e=>h2 (cmpI_eq.1 e)),cmpI_eq];simp[h2]
 ·rw[if_neg (fun e=>h1 (cmpI_eq.1 e)),cmpI_eq];simp[h1]
theorem ZfK {a b c:DEnd} (h:Zat a b<0) (k:Zat b c<0):Zat a c<0:=by
 rw[Zf8]at*;omega
def ZG (l:List DEnd) (e:DEnd):Nat:=l.countP fun x=>decide (Zat x e<0)
theorem Zds {l:List DEnd} (h:Zba l) (e:DEnd):Zla l e (ZG l e):=by
 refine⟨List.countP_le_length,?_⟩
 induction l with
 |nil=>intro k hk;simp at hk
 |cons a l ih=>
  have h':=List.pairwise_cons.1 h;intro k hk;unfold ZG;rw[List.countP_cons]
  by_cases ha:Zat a e<0
  ·rw[if_pos (by simpa using ha)]
   cases k with
   |zero=>simp only[List.getElem_cons_zero,ha,true_iff];omega
   |succ k=>
    rw[List.getElem_cons_succ,ih h'.2 k (by simpa using hk)];unfold ZG;omega
  ·rw[if_neg (by simpa using ha)]
   have h0:l.countP (fun x=>decide (Zat x e<0))=0:=by
    rw[List.countP_eq_zero];intro x hx;simp only[decide_eq_true_eq];exact fun hxe=>ha (ZfK (h'.1 x hx) hxe)
   rw[h0]
   cases k with
   |zero=>simp only[List.getElem_cons_zero,ha,false_iff];omega
   |succ k=>
    rw[List.getElem_cons_succ]
    constructor
    ·intro hx;exact absurd (ZfK (h'.1 _ (List.getElem_mem _)) hx) ha
    ·intro hx;omega
theorem ZhD {l:List DEnd} (h:Zba l) (e:DEnd):ZiT l e (ZG l e)=decide (e∈l):=by
 have hp:=Zds h e;rw[Bool.eq_iff_iff,decide_eq_true_eq];unfold ZiT
 constructor
 ·intro hi
  split at hi
  ·rename_i x hx
   have:=(Zes x e).1 (by simpa using hi);subst this;exact List.mem_of_getElem? hx
  ·cases hi
 ·intro hm;obtain⟨k,hk,rfl⟩:=List.mem_iff_getElem.1 hm
  have h1:¬k<ZG l l[k]:=fun hlt=>by
   have:=(hp.2 k hk).2 hlt;rw[(Zes _ _).2 rfl]at this;omega
  have h2:¬ZG l l[k]<k:=fun hlt=>by
   have h3:=List.pairwise_iff_getElem.1 h (ZG l l[k]) k (by omega) hk hlt;have:=(hp.2 _ (by omega)).1 h3;omega
  have h3:ZG l l[k]=k:=by omega
  rw[h3,Qg hk];simp[(Zes _ _).2 rfl]
end
/- Digraphs:how one lies in memory;what reads it. -/
section
open Go.RowKit
structure HArc where
 f:Int
 t:Int
 kind:Int
 label:Int
deriving DecidableEq
def HArc.cells (a:HArc):List Value:=[.int .i64 a.f,.int .i64 a.t,.int .i64 a.kind,.int .i64 a.label]
def ApartD (hs:List Value):Prop:=∀(i j:Nat) (v u:Value) (k:Nat),hs[i]? =some v→hs[j]? =some u→i≠j→Own v k→¬Own u k
section
variable {w:World} {G:Nat→Prop} {g:Nat} {out inn:List (List DEnd)} {n:Int} {ob ib:Nat} {oh ih:List Value} {base:Nat}
def ZgT (N:Nat) (i:Int):Bool:=decide (0≤i)&&decide (i<(N:Int))
def ZO (N:Nat) (a:HArc):Bool:=ZgT N a.f&&(ZgT N a.t&&(decide (1≤a.kind)&&(decide (a.kind≤3)&&(decide (0≤a.label)&&decide (a.label≤1048575)))))
end
def Zbg (a:HArc):DEnd:=⟨a.kind,a.label,a.t⟩
def inE (a:HArc):DEnd:=⟨a.kind,a.label,a.f⟩
end
/- Digraphs:whether an arc is there. -/
section
open Go.RowKit
theorem Zc2 {N:Nat} {a:HArc} (h:ZO N a=true):∃i j:Nat,a.f=(i:Int)∧a.t=(j:Int)∧i<N∧j<N:=by
 simp only[ZO,ZgT,Bool.and_eq_true,decide_eq_true_eq]at h;exact⟨a.f.toNat,a.t.toNat,by omega,by omega,by omega,by omega⟩
def ZiU (out:List (List DEnd)) (a:HArc):Bool:=ZO out.length a&&(match out[a.f.toNat]? with|some l=>decide (Zbg a∈l)|none=>false)
section
variable {w:World} {G:Nat→Prop} {g:Nat} {out inn:List (List DEnd)} {n:Int} {ob ib:Nat} {oh ih:List Value} {base:Nat}
end
end
/- Digraphs:a row of ends put in another's place. -/
section
open Go.RowKit
theorem ApartD.set {hs:List Value} (h:ApartD hs) {N i:Nat} {v u:Value} (hv:hs[i]? =some v) (hlt:∀x∈hs,∀k,Own x k→k<N) (hu:∀k,Own u k→Own v k∨N≤k):ApartD (hs.set i u):=by
 intro a b x y k ha hb hab hx hy;have hil:=(List.getElem?_eq_some_iff.1 hv).1;have mem:∀{j:Nat} {z:Value},hs[j]? =some z→z∈hs:=fun e=>List.mem_of_getElem? e
 by_cases e1:a=i
 ·subst e1;rw[List.getElem?_set_self hil]at ha;rw[List.getElem?_set_ne hab]at hb
  cases ha
  rcases hu k hx with h1|h1
  ·exact h _ _ _ _ _ hv hb hab h1 hy
  ·have:=hlt _ (mem hb) _ hy;omega
 ·rw[List.getElem?_set_ne (fun x=>e1 x.symm)]at ha
  by_cases e2:b=i
  ·subst e2;rw[List.getElem?_set_self hil]at hb
   cases hb
   rcases hu k hy with h1|h1
   ·exact h _ _ _ _ _ ha hv hab hx h1
   ·have:=hlt _ (mem ha) _ hx;omega
  ·rw[List.getElem?_set_ne (fun x=>e2 x.symm)]at hb;exact h _ _ _ _ _ ha hb hab hx hy
theorem Grew.own {w:World} {v u:Value} (h:Grew w v u):∀k,Own u k→Own v k∨w.heap.size≤k:=by
 intro k hk;unfold Own at*;rcases h with h|⟨j,h1,h2⟩
 ·left;rw[←h];exact hk
 ·right;rw[h1]at hk;cases hk;exact h2
section
variable {w w':World} {G:Nat→Prop} {g:Nat} {out inn:List (List DEnd)} {n:Int} {ob ib:Nat} {oh ih:List Value} {base:Nat}
end
end
/- Digraphs:an arc added. -/
section
open Go.RowKit
def Zi4 (out:List (List DEnd)) (a:HArc):Int:=if ZO out.length a=true then (if ZiU out a=true then 4 else 0) else 1
def ZdX (l:List DEnd) (e:DEnd):List DEnd:=ZfD l (ZG l e) e
def ZmK (out:List (List DEnd)) (a:HArc):List (List DEnd):=if Zi4 out a=0 then out.modify a.f.toNat (ZdX · (Zbg a)) else out
def ZmL (out inn:List (List DEnd)) (a:HArc):List (List DEnd):=if Zi4 out a=0 then inn.modify a.t.toNat (ZdX · (inE a)) else inn
theorem Zkm (l:List DEnd) (e:DEnd) (h:Zla l e (ZG l e)):(ZdX l e).length=l.length+1:=ZjJ l _ e h.1
section
variable {w:World} {G:Nat→Prop} {g:Nat} {out inn:List (List DEnd)} {n:Nat} {ob ib:Nat} {oh ih:List Value} {base:Nat}
end
end
/- Digraphs:an arc dropped. -/
section
open Go.RowKit
def ZgV (out:List (List DEnd)) (a:HArc):Int:=if ZiU out a=true then 0 else 3
def ZcR (l:List DEnd) (e:DEnd):List DEnd:=ZgW l (ZG l e)
def Zk8 (out:List (List DEnd)) (a:HArc):List (List DEnd):=if ZgV out a=0 then out.modify a.f.toNat (ZcR · (Zbg a)) else out
def Zk9 (out inn:List (List DEnd)) (a:HArc):List (List DEnd):=if ZgV out a=0 then inn.modify a.t.toNat (ZcR · (inE a)) else inn
theorem Zlv {l:List DEnd} (h:Zba l) {e:DEnd} (m:e∈l):ZG l e<l.length:=by
 have h1:=ZhD h e;rw[decide_eq_true m]at h1;unfold ZiT at h1
 split at h1
 ·next x hx=>exact(List.getElem?_eq_some_iff.1 hx).1
 ·cases h1
section
variable {w:World} {G:Nat→Prop} {g:Nat} {out inn:List (List DEnd)} {n:Nat} {ob ib:Nat} {oh ih:List Value} {base:Nat}
end
end
/- Digraphs:masks. -/
section
open Go.RowKit
def Zau (mask kind:Int):Bool:=decide ((mask/2 ^ kind.toNat)%2=1)
theorem ZlQ (x:Int) (y:Nat) (hy:y≤8):bits .and .i64 x (y:Int)=(((x%18446744073709551616).toNat &&& y:Nat):Int):=by
 change IntKind.i64.wrap (((BitVec.ofInt 64 x &&& BitVec.ofInt 64 (y:Int)).toNat:Nat):Int)=_;have h1:(BitVec.ofInt 64 x).toNat=(x%18446744073709551616).toNat:=by rw[BitVec.toNat_ofInt];rfl
 have h2:(BitVec.ofInt 64 (y:Int)).toNat=y:=by rw[BitVec.toNat_ofInt];omega
 rw[BitVec.toNat_and,h1,h2];have h3:(x%18446744073709551616).toNat &&& y≤y:=Nat.and_le_right;exact IntWalk.i64_in _ (by omega)
theorem Znw (n y:Nat) (e:(2 ^ 4-1) &&& y=y):n &&& y=(n%16) &&& y:=by
 have h:=Nat.and_two_pow_sub_one_eq_mod n 4;rw[show(16:Nat)=2 ^ 4 from rfl,←h,Nat.and_assoc,e]
theorem ZiL:∀r:Fin 16,((r.1 &&& 2=0)↔r.1/2%2=0)∧((r.1 &&& 4=0)↔r.1/4%2=0)∧((r.1 &&& 8=0)↔r.1/8%2=0):=by decide
theorem ZhU (x:Int) (y:Nat) (hy:y≤8) (e:(2 ^ 4-1) &&& y=y) (b:Bool) (h:((x%18446744073709551616).toNat%16 &&& y=0)↔b=false):(bits .and .i64 x (y:Int) != 0)=b:=by
 rw[ZlQ x y hy,Znw _ y e,Bool.eq_iff_iff];simp only[bne_iff_ne,ne_eq]
 cases b
 ·simp only[Bool.false_eq_true,iff_false,Decidable.not_not];have:=h.2 rfl;omega
 ·simp only[iff_true];intro hz;have:=h.1 (by omega)
  cases this
theorem ZkS (x:Int):(bits .and .i64 x 2 != 0)=Zau x 1:=by
 refine ZhU x 2 (by omega) (by decide) _ ?_;rw[(ZiL ⟨(x%18446744073709551616).toNat%16,Nat.mod_lt _ (by omega)⟩).1];unfold Zau;rw[decide_eq_false_iff_not]
 show _↔¬(x/2)%2=1
 simp only;omega
theorem ZkR (x:Int):(bits .and .i64 x 4 != 0)=Zau x 2:=by
 refine ZhU x 4 (by omega) (by decide) _ ?_;rw[(ZiL ⟨(x%18446744073709551616).toNat%16,Nat.mod_lt _ (by omega)⟩).2.1];unfold Zau;rw[decide_eq_false_iff_not]
 show _↔¬(x/4)%2=1
 simp only;omega
theorem ZkQ (x:Int):(bits .and .i64 x 8 != 0)=Zau x 3:=by
 refine ZhU x 8 (by omega) (by decide) _ ?_;rw[(ZiL ⟨(x%18446744073709551616).toNat%16,Nat.mod_lt _ (by omega)⟩).2.2];unfold Zau;rw[decide_eq_false_iff_not]
 show _↔¬(x/8)%2=1
 simp only;omega
end
end Go.Proofs.Ytdbjokfejmgepaa
